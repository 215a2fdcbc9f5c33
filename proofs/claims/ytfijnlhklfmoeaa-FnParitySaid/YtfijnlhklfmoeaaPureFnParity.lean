/- The laws of parity hold of the drawn stripes; no condition. -/
import Derived.Test.YtfijnlhklfmoeaaGF
import Derived.Test.YtfijnlhklfmoeaaQFnParityx13
import Derived.OpenShut
set_option linter.unusedVariables false
set_option linter.unusedSimpArgs false
namespace Go.Proofs.Ytfijnlhklfmoeaa.Pure
open Go.RowKit Go.Proofs.Ytfijnlhklfmoeaa.PFnParity Go.Proofs.YtfijnlhklfmoeaaW.PrintWords Go.Proofs.YtfijnlhklfmoeaaW.PrintLast Go.Proofs.YtfijnlhklfmoeaaW.PrintMore Go.Proofs.Ytfijnlhklfmoeaa.GF
theorem wr64 (n : Nat) (h : n < 2 ^ 62) : wrap64 (n : Int) = (n : Int) := by unfold wrap64; omega
theorem wri (n : Int) (h : 0 ≤ n) (h1 : n < 2 ^ 62) : wrap64 n = n := by unfold wrap64; omega
theorem shr_nat (b j q : Nat) (hj : j ≤ 8) (hq : q = b / 2 ^ j) : shr .u8 (b : Int) (j : Int) = (q : Int) := by
 unfold shr; rw [Int.toNat_natCast, Nat.min_eq_left (show j ≤ IntKind.bits .u8 from hj), hq]
 simp
theorem and1_nat (q : Nat) (hq : q < 256) : Go.bits .and .u8 (q : Int) 1 = ((q % 2 : Nat) : Int) := by
 rw [and1_u8 (q : Int) (by omega) (by omega)]; simp
theorem and1_inat (q : Nat) (hq : q < 2 ^ 62) : Go.bits .and .i64 (q : Int) 1 = ((q % 2 : Nat) : Int) := by
 rw [and1_i64 (q : Int) (by omega) (by omega)]; simp
theorem dbl (x : Nat) (hx : x < 256) : wrap64 ((x : Int) * 2) = ((2 * x : Nat) : Int) := by unfold wrap64; omega
theorem inc (j : Nat) (hj : j < 2 ^ 62) : wrap64 ((j : Int) + 1) = ((j + 1 : Nat) : Int) := by unfold wrap64; omega
theorem x285 (x : Nat) (hx : x < 256) : Go.bits .xor .i64 ((2 * x : Nat) : Int) 285 = ((2 * x ^^^ 285 : Nat) : Int) := xor_i64 (2 * x) 285 (by omega) (by omega)
theorem xor_nat (o x : Nat) (ho : o < 256) (hx : x < 256) : Go.bits .xor .i64 (o : Int) (x : Int) = ((o ^^^ x : Nat) : Int) := xor_i64 o x (by omega) (by omega)
theorem xt_hi (x : Nat) (h : 2 * x > 255) : xt x = 2 * x ^^^ 285 := by unfold xt; rw [if_pos h]
theorem xt_lo (x : Nat) (h : ¬ 2 * x > 255) : xt x = 2 * x := by unfold xt; rw [if_neg h]
theorem within_tells (a b c : Int) : impl_within.f a b c = some (decide (a ≥ b ∧ a ≤ c)) := by
 unfold impl_within.f
 split
 ·rename_i h; simp [h]
 ·rename_i h; simp [h]
theorem l1In_tells (a b c : Int) : spec_l1In.f a b c = some (decide (a ≥ b ∧ a ≤ c)) := by
 unfold spec_l1In.f
 split
 ·rename_i h; simp [h]
 ·rename_i h; simp [h]
theorem ev_of {α : Type} {g : Nat → Option α} {r : α} (K : Nat) (h : ∀ k, K < k → g k = some r) : Ev g r := ⟨K + 1, fun k hk => h k (by omega)⟩
theorem evp {α : Type} {c : Prop} [Decidable c] {f g : Nat → Option α} {r : α} (h : c) (k : Ev f r) : Ev (fun n => if c then f n else g n) r := Ev.congr (fun _ => if_pos h) k
theorem evn {α : Type} {c : Prop} [Decidable c] {f g : Nat → Option α} {r : α} (h : ¬ c) (k : Ev g r) : Ev (fun n => if c then f n else g n) r := Ev.congr (fun _ => if_neg h) k
theorem ev_some {α β : Type} {a : α} {f : Nat → α → Option β} {r : β} (h : Ev (fun n => f n a) r) : Ev (fun n => (some a).bind (f n)) r := h
theorem ev_to_some {α β : Type} {o : Option α} {a : α} {f : Nat → α → Option β} {r : β} (ho : o = some a) (h : Ev (fun n => f n a) r) : Ev (fun n => o.bind (f n)) r := by subst ho; exact h
theorem gset {α : Type} (z : α) (xs : List α) (i j : Nat) (v : α) (hi : i < xs.length) : (xs.set i v).getD j z = if j = i then v else xs.getD j z := by
 simp only [List.getD_eq_getElem?_getD, List.getElem?_set]
 by_cases h : i = j
 ·subst h; simp [hi]
 ·rw [if_neg h, if_neg (fun e => h e.symm)]
theorem gext {α : Type} (z : α) {l m : List α} (hl : l.length = m.length) (h : ∀ j, j < l.length → l.getD j z = m.getD j z) : l = m := by
 apply List.ext_getElem hl
 intro j h1 h2
 have := h j h1
 simpa [List.getD_eq_getElem?_getD, h1, h2] using this
theorem rdOf_nat {α : Type} (z : α) (xs : List α) (i : Nat) : rdOf z xs (i : Int) = xs.getD i z := by unfold rdOf; rw [Int.toNat_natCast]
theorem gmem {α : Type} (z : α) {xs : List α} {i : Nat} (h : i < xs.length) : xs.getD i z ∈ xs := by
 rw [List.getD_eq_getElem?_getD]; simp [h]
def even (xs : List ByteArray) : Bool := decide (1 ≤ xs.length ∧ xs.length ≤ 16) && (decide ((xs.getD 0 ByteArray.empty).size ≤ 40) && !(xs.any fun s => (s.size : Int) != ((xs.getD 0 ByteArray.empty).size : Int)))
theorem l3data_l (xs : List ByteArray) (hl : xs.length < 2 ^ 40) (d : Nat) : ∀ (i : Nat), i + d = xs.length →
  Ev (fun k => spec_l3Data.l0 k xs xs (xs.length : Int) (i : Int)) (if (xs.drop i).any (fun s => (s.size : Int) != ((xs.getD 0 ByteArray.empty).size : Int)) = true then false else decide (1 ≤ xs.length ∧ xs.length ≤ 16) && decide ((xs.getD 0 ByteArray.empty).size ≤ 40)) := by
 induction d with
 | zero =>
  intro i hi; rw [List.drop_eq_nil_of_le (by omega), List.any_nil, if_neg (by decide)]
  refine Ev.step (fun k => by simp only [spec_l3Data.l0]; rw [if_neg (by omega), l1In_tells]) ?_
  by_cases h : 1 ≤ xs.length ∧ xs.length ≤ 16
  ·rw [decide_eq_true h, decide_eq_true (show (xs.length : Int) ≥ 1 ∧ (xs.length : Int) ≤ 16 by omega), Bool.true_and]
   refine ev_some (evp rfl (evp (by omega) ?_))
   rw [show rdOf ByteArray.empty xs 0 = xs.getD 0 ByteArray.empty from rfl]
   by_cases h2 : (xs.getD 0 ByteArray.empty).size ≤ 40
   ·rw [decide_eq_true h2, decide_eq_true (by omega)]; exact Ev.now _
   ·rw [decide_eq_false h2, decide_eq_false (by omega)]; exact Ev.now _
  ·rw [decide_eq_false h, decide_eq_false (show ¬ ((xs.length : Int) ≥ 1 ∧ (xs.length : Int) ≤ 16) by omega), Bool.false_and]
   exact ev_some (evn (by decide) (Ev.now _))
 | succ d ih =>
  intro i hi
  have hd : xs.drop i = xs.getD i ByteArray.empty :: xs.drop (i + 1) := by
   rw [List.drop_eq_getElem_cons (by omega)]; simp [List.getD_eq_getElem?_getD, show i < xs.length by omega]
  rw [hd, List.any_cons]
  by_cases h : ((xs.getD i ByteArray.empty).size : Int) = ((xs.getD 0 ByteArray.empty).size : Int)
  ·rw [bne_eq_false_iff_eq.mpr h, Bool.false_or]
   refine Ev.step (fun k => by
    simp only [spec_l3Data.l0]
    rw [if_pos (by omega), if_pos (by omega), if_pos (by omega), if_pos (by omega), rdOf_nat, show rdOf ByteArray.empty xs 0 = xs.getD 0 ByteArray.empty from rfl, if_pos h, inc i (by omega)]) (ih (i + 1) (by omega))
  ·rw [bne_iff_ne.mpr h, Bool.true_or, if_pos rfl]
   exact Ev.step (fun k => by
    simp only [spec_l3Data.l0]
    rw [if_pos (by omega), if_pos (by omega), if_pos (by omega), if_pos (by omega), rdOf_nat, show rdOf ByteArray.empty xs 0 = xs.getD 0 ByteArray.empty from rfl, if_neg h]) (Ev.now _)
theorem l3data (xs : List ByteArray) (hl : xs.length < 2 ^ 40) : Ev (fun k => spec_l3Data.f k xs) (even xs) := by
 have := l3data_l xs hl xs.length 0 (by omega)
 rw [List.drop_zero] at this; unfold spec_l3Data.f even
 cases h : xs.any (fun s => (s.size : Int) != ((xs.getD 0 ByteArray.empty).size : Int)) with
 | true => rw [h, if_pos rfl] at this; simpa using this
 | false => rw [h, if_neg (by decide)] at this; simpa using this
theorem areEqual (xs : List ByteArray) : impl_areEqual.f xs = some (even xs) := rfl
theorem even_pos {xs : List ByteArray} (h : even xs = true) : 1 ≤ xs.length ∧ xs.length ≤ 16 ∧ (xs.getD 0 ByteArray.empty).size ≤ 40 ∧ ∀ x ∈ xs, x.size = (xs.getD 0 ByteArray.empty).size := by
 unfold even at h; rw [Bool.and_eq_true, Bool.and_eq_true] at h
 obtain ⟨h1, h2, h3⟩ := h
 have h1 := of_decide_eq_true h1
 refine ⟨h1.1, h1.2, of_decide_eq_true h2, fun x hx => ?_⟩
 have h4 : xs.any (fun s => (s.size : Int) != ((xs.getD 0 ByteArray.empty).size : Int)) = false := by simpa using h3
 have h5 := List.any_eq_false.mp h4 x hx
 simp at h5
 simp only [List.getD_eq_getElem?_getD]; omega
def goodS (xs : List ByteArray) (p q : ByteArray) : Bool := even xs && (decide (p.size = (xs.getD 0 ByteArray.empty).size) && decide (q.size = (xs.getD 0 ByteArray.empty).size))
theorem spec_good (xs : List ByteArray) (p q : ByteArray) (hl : xs.length < 2 ^ 40) : Ev (fun k => spec_GoodStripe.f k xs p q) (goodS xs p q) := by
 unfold spec_GoodStripe.f goodS
 refine Ev.bind (l3data xs hl) ?_
 cases he : even xs with
 | false => exact evn (by decide) (Ev.now _)
 | true =>
  have hp := even_pos he
  refine evp rfl (evp (by omega) ?_)
  rw [show rdOf ByteArray.empty xs 0 = xs.getD 0 ByteArray.empty from rfl]
  by_cases h : p.size = (xs.getD 0 ByteArray.empty).size
  ·refine evp (by omega) ?_
   rw [decide_eq_true h, Bool.true_and, Bool.true_and, ← h]
   by_cases h2 : q.size = p.size
   ·rw [decide_eq_true h2, h2, beq_self_eq_true]; exact Ev.now _
   ·rw [decide_eq_false h2, beq_eq_false_iff_ne.mpr (by omega)]; exact Ev.now _
  ·refine evn (by omega) ?_
   rw [decide_eq_false h]; exact Ev.now _
theorem impl_good (xs : List ByteArray) (p q : ByteArray) : impl_GoodStripe.f xs p q = some (goodS xs p q) := by
 unfold impl_GoodStripe.f goodS; rw [areEqual]; simp only [Option.bind_some]
 cases he : even xs with
 | false => rfl
 | true =>
  have hp := even_pos he
  rw [if_pos rfl, if_pos (by omega), show rdOf ByteArray.empty xs 0 = xs.getD 0 ByteArray.empty from rfl]
  by_cases h : p.size = (xs.getD 0 ByteArray.empty).size
  ·rw [if_pos (by omega), decide_eq_true h, Bool.true_and, Bool.true_and]
   by_cases h2 : q.size = (xs.getD 0 ByteArray.empty).size
   ·rw [decide_eq_true h2, h2, beq_self_eq_true]
   ·rw [decide_eq_false h2, beq_eq_false_iff_ne.mpr (by omega)]
  ·rw [if_neg (by omega), decide_eq_false h]; rfl
theorem impl_mul_l (n : Nat) : ∀ (k j x o b : Nat), n + j = 8 → n < k → x < 256 → o < 256 → b < 256 →
  impl_FieldMul.l0 k (b : Int) (o : Int) (j : Int) (x : Int) = some ((gmAux n x (b / 2 ^ j) o : Nat) : Int) := by
 induction n with
 | zero =>
  intro k j x o b hj hk hx ho hb
  obtain ⟨k, rfl⟩ : ∃ m, k = m + 1 := ⟨k - 1, by omega⟩
  simp only [impl_FieldMul.l0]; rw [if_neg (by omega)]
  show some ((o : Int) % 256) = some (o : Int)
  rw [Int.emod_eq_of_lt (by omega) (by omega)]
 | succ n ih =>
  intro k j x o b hj hk hx ho hb
  obtain ⟨k, rfl⟩ : ∃ m, k = m + 1 := ⟨k - 1, by omega⟩
  obtain ⟨q, hq⟩ : ∃ q, q = b / 2 ^ j := ⟨_, rfl⟩
  have hq2 : q < 256 := by rw [hq]; exact Nat.lt_of_le_of_lt (Nat.div_le_self _ _) hb
  have hb2 : q / 2 = b / 2 ^ (j + 1) := by rw [hq, Nat.div_div_eq_div_mul, ← Nat.pow_succ]
  have hs : shr .u8 (b : Int) (j : Int) = (q : Int) := shr_nat b j q (by omega) hq
  rw [← hq]; simp only [gmAux]; rw [hb2]
  have hxt := xt_lt x hx
  have hox := xor_lt _ _ ho hx
  have i1 := ih k (j + 1) (xt x) (o ^^^ x) b (by omega) (by omega) hxt hox hb
  have i2 := ih k (j + 1) (xt x) o b (by omega) (by omega) hxt ho hb
  have c1 : (j : Int) < 8 := by omega
  have c2 : (0 : Int) ≤ (j : Int) := by omega
  clear hq hb2
  simp only [impl_FieldMul.l0]; rw [if_pos c1, if_pos c2, hs, and1_nat q hq2, dbl x hx, inc j (by omega), x285 x hx, xor_nat o x ho hx]
  clear hs
  by_cases h1 : q % 2 = 1
  ·rw [if_pos (by omega), if_pos h1]
   by_cases h2 : 2 * x > 255
   ·rw [if_pos (by omega), ← xt_hi x h2]; exact i1
   ·rw [if_neg (by omega), ← xt_lo x h2]; exact i1
  ·rw [if_neg (by omega), if_neg h1]
   by_cases h2 : 2 * x > 255
   ·rw [if_pos (by omega), ← xt_hi x h2]; exact i2
   ·rw [if_neg (by omega), ← xt_lo x h2]; exact i2
theorem impl_mul (k a b : Nat) (hk : 8 < k) (ha : a < 256) (hb : b < 256) : impl_FieldMul.f k (a : Int) (b : Int) = some ((gm a b : Nat) : Int) := by
 unfold impl_FieldMul.f; rw [wr64 a (by omega)]
 have := impl_mul_l 8 k 0 a 0 b (by omega) hk ha (by omega) hb
 simpa [gm] using this
theorem spec_mul_l (n : Nat) : ∀ (k x o y : Nat), n < k → y < 2 ^ n → n ≤ 8 → x < 256 → o < 256 →
  spec_l2Mul.l0 k (o : Int) (x : Int) (y : Int) = some ((gmAux n x y o : Nat) : Int) := by
 induction n with
 | zero =>
  intro k x o y hk hy _ hx ho
  obtain ⟨k, rfl⟩ : ∃ m, k = m + 1 := ⟨k - 1, by omega⟩
  have : y = 0 := by simpa using hy
  subst this; simp only [spec_l2Mul.l0]; rw [if_neg (by omega)]
  show some ((o : Int) % 256) = some (o : Int)
  rw [Int.emod_eq_of_lt (by omega) (by omega)]
 | succ n ih =>
  intro k x o y hk hy hn hx ho
  obtain ⟨k, rfl⟩ : ∃ m, k = m + 1 := ⟨k - 1, by omega⟩
  simp only [spec_l2Mul.l0]
  by_cases h0 : y = 0
  ·subst h0
   rw [if_neg (by omega), gmAux_zero]; rw [Int.emod_eq_of_lt (by omega) (by omega)]
  have hp : (2 : Nat) ^ (n + 1) ≤ 256 := by
   have := Nat.pow_le_pow_right (show 0 < 2 by decide) (show n + 1 ≤ 8 by omega)
   simpa using this
  have hy2 : y / 2 < 2 ^ n := by rw [Nat.pow_succ] at hy; omega
  have hxt := xt_lt x hx
  have hox := xor_lt _ _ ho hx
  have i1 := ih k (xt x) (o ^^^ x) (y / 2) (by omega) hy2 (by omega) hxt hox
  have i2 := ih k (xt x) o (y / 2) (by omega) hy2 (by omega) hxt ho
  rw [if_pos (by omega), and1_inat y (by omega), dbl x hx, x285 x hx, xor_nat o x ho hx, show (y : Int) / 2 = ((y / 2 : Nat) : Int) by simp]; simp only [gmAux]
  by_cases h1 : y % 2 = 1
  ·rw [if_pos (by omega), if_pos h1]
   by_cases h2 : 2 * x > 255
   ·rw [if_pos (by omega), ← xt_hi x h2]; exact i1
   ·rw [if_neg (by omega), ← xt_lo x h2]; exact i1
  ·rw [if_neg (by omega), if_neg h1]
   by_cases h2 : 2 * x > 255
   ·rw [if_pos (by omega), ← xt_hi x h2]; exact i2
   ·rw [if_neg (by omega), ← xt_lo x h2]; exact i2
theorem spec_mul (k a b : Nat) (hk : 8 < k) (ha : a < 256) (hb : b < 256) : spec_l2Mul.f k (a : Int) (b : Int) = some ((gm a b : Nat) : Int) := by
 unfold spec_l2Mul.f; rw [wr64 a (by omega), wr64 b (by omega)]
 have := spec_mul_l 8 k a 0 b hk (by omega) (by omega) ha (by omega)
 simpa [gm] using this
theorem impl_pow_l (a n : Nat) (ha : a < 256) (hn : n < 2 ^ 60) (d : Nat) : ∀ (k i : Nat), i + d = n → d + 9 < k →
  impl_power.l0 k (a : Int) ((gp a i : Nat) : Int) (n : Int) (i : Int) = some ((gp a n : Nat) : Int) := by
 induction d with
 | zero =>
  intro k i hi hk
  obtain ⟨k, rfl⟩ : ∃ m, k = m + 1 := ⟨k - 1, by omega⟩
  simp only [impl_power.l0]; rw [if_neg (by omega), show i = n by omega]
 | succ d ih =>
  intro k i hi hk
  obtain ⟨k, rfl⟩ : ∃ m, k = m + 1 := ⟨k - 1, by omega⟩
  have e2 : wrap64 ((i : Int) + 1) = ((i + 1 : Nat) : Int) := by rw [wri _ (by omega) (by omega)]; omega
  simp only [impl_power.l0]; rw [if_pos (by omega), impl_mul k _ _ (by omega) (gp_lt a i) ha, e2]; simp only [Option.bind_some]
  exact ih k (i + 1) (by omega) (by omega)
theorem impl_pow (k a n : Nat) (hk : n + 9 < k) (ha : a < 256) (hn : n < 2 ^ 60) : impl_power.f k (a : Int) (n : Int) = some ((gp a n : Nat) : Int) := by
 unfold impl_power.f
 exact impl_pow_l a n ha hn n k 0 (by omega) hk
theorem spec_pow_l (a N : Nat) (ha : a < 256) (hn : N < 2 ^ 60) (d : Nat) : ∀ (k : Nat), d ≤ N → d + 9 < k →
  spec_l2Pow.l0 k (a : Int) (d : Int) ((gp a (N - d) : Nat) : Int) = some ((gp a N : Nat) : Int) := by
 induction d with
 | zero =>
  intro k hd hk
  obtain ⟨k, rfl⟩ : ∃ m, k = m + 1 := ⟨k - 1, by omega⟩
  simp only [spec_l2Pow.l0]; rw [if_neg (by omega), Nat.sub_zero]
 | succ d ih =>
  intro k hd hk
  obtain ⟨k, rfl⟩ : ∃ m, k = m + 1 := ⟨k - 1, by omega⟩
  have e2 : wrap64 (((d + 1 : Nat) : Int) - 1) = (d : Int) := by rw [wri _ (by omega) (by omega)]; omega
  simp only [spec_l2Pow.l0]; rw [if_pos (by omega), spec_mul k _ _ (by omega) (gp_lt a _) ha, e2]; simp only [Option.bind_some]
  have := ih k (by omega) (by omega)
  rw [show N - d = (N - (d + 1)) + 1 by omega] at this
  exact this
theorem spec_pow (k a n : Nat) (hk : n + 9 < k) (ha : a < 256) (hn : n < 2 ^ 60) : spec_l2Pow.f k (a : Int) (n : Int) = some ((gp a n : Nat) : Int) := by
 unfold spec_l2Pow.f
 have := spec_pow_l a n ha hn n k (Nat.le_refl _) hk
 rw [Nat.sub_self] at this
 exact this
theorem impl_inv (k a : Nat) (hk : 300 < k) (ha : a < 256) : impl_FieldInv.f k (a : Int) = some ((GF.inv a : Nat) : Int) := by
 unfold impl_FieldInv.f; rw [show (254 : Int) = ((254 : Nat) : Int) from rfl, impl_pow k a 254 (by omega) ha (by omega)]
 rfl
theorem spec_inv (k a : Nat) (hk : 300 < k) (ha : a < 256) : spec_l2Inv.f k (a : Int) = some ((GF.inv a : Nat) : Int) := by
 unfold spec_l2Inv.f
 by_cases h : a = 0
 ·subst h; rw [if_pos (by rfl), GF.inv_zero]; rfl
 ·rw [if_neg (by omega), show (254 : Int) = ((254 : Nat) : Int) from rfl, spec_pow k a 254 (by omega) ha (by omega)]
  rfl
def bn (s : ByteArray) (j : Nat) : Nat := (bt s (j : Int)).toNat
theorem bn_lt (s : ByteArray) (j : Nat) : bn s j < 256 := by have := bt_range s (j : Int); unfold bn; omega
theorem bt_bn (s : ByteArray) (j : Nat) : bt s (j : Int) = ((bn s j : Nat) : Int) := by have := bt_range s (j : Int); unfold bn; omega
def lst (n : Nat) (f : Nat → Nat) : List Int := (List.range n).map fun j => ((f j : Nat) : Int)
def txt (n : Nat) (f : Nat → Nat) : ByteArray := strOfNums (lst n f)
theorem lst_len (n : Nat) (f : Nat → Nat) : (lst n f).length = n := by simp [lst]
theorem lst_at (n : Nat) (f : Nat → Nat) (j : Nat) (h : j < n) : (lst n f).getD j 0 = ((f j : Nat) : Int) := by simp [lst, List.getD_eq_getElem?_getD, h]
theorem lst_rd (n : Nat) (f : Nat → Nat) (j : Nat) (h : j < n) : rd (lst n f) (j : Int) = ((f j : Nat) : Int) := by unfold rd; rw [Int.toNat_natCast]; exact lst_at n f j h
theorem lst_congr {n : Nat} {f g : Nat → Nat} (h : ∀ j, j < n → f j = g j) : lst n f = lst n g := by
 unfold lst
 exact List.map_congr_left (fun j hj => by rw [h j (List.mem_range.mp hj)])
theorem lst_set (n : Nat) (f : Nat → Nat) (t : Nat) (v : Nat) (h : t < n) : (lst n f).set t ((v : Nat) : Int) = lst n (fun j => if j = t then v else f j) := by
 refine gext 0 (by rw [List.length_set, lst_len, lst_len]) (fun j hj => ?_)
 rw [List.length_set, lst_len] at hj
 rw [gset 0 _ _ _ _ (by rw [lst_len]; exact h), lst_at n (fun j => if j = t then v else f j) _ hj, lst_at _ _ _ hj]
 by_cases e : j = t
 ·rw [if_pos e, if_pos e]
 ·rw [if_neg e, if_neg e]
theorem lst_zero (n : Nat) : List.replicate n (0 : Int) = lst n (fun _ => 0) := by
 refine gext 0 (by rw [List.length_replicate, lst_len]) (fun j hj => ?_)
 rw [List.length_replicate] at hj; rw [lst_at _ _ _ hj]
 simp [List.getD_eq_getElem?_getD, hj]
theorem txt_congr {n : Nat} {f g : Nat → Nat} (h : ∀ j, j < n → f j = g j) : txt n f = txt n g := by unfold txt; rw [lst_congr h]
theorem txt_size (n : Nat) (f : Nat → Nat) : (txt n f).size = n := by unfold txt; rw [strOfNums_size, lst_len]
theorem bt_strOf (xs : List Int) (j : Nat) (h : j < xs.length) (h0 : 0 ≤ xs.getD j 0) (h1 : xs.getD j 0 < 256) : bt (strOfNums xs) (j : Int) = xs.getD j 0 := by
 rw [List.getD_eq_getElem?_getD, List.getElem?_eq_getElem h] at h0 h1 ⊢
 simp only [Option.getD_some] at h0 h1 ⊢
 have hs : j < (strOfNums xs).size := by rw [strOfNums_size]; exact h
 unfold bt
 rw [dif_pos (by rw [Int.toNat_natCast]; exact hs)]
 simp only [Int.toNat_natCast]
 have e : (strOfNums xs)[j]'hs = UInt8.ofNat (xs[j]).toNat := by
  show (strOfNums xs).data[j]'hs = _
  simp [strOfNums]
 rw [e, UInt8.toNat_ofNat']
 omega
theorem bn_txt (n : Nat) (f : Nat → Nat) (j : Nat) (hj : j < n) (hf : f j < 256) : bn (txt n f) j = f j := by
 unfold bn txt
 rw [bt_strOf _ _ (by rw [lst_len]; exact hj) (by rw [lst_at _ _ _ hj]; omega) (by rw [lst_at _ _ _ hj]; omega), lst_at _ _ _ hj, Int.toNat_natCast]
theorem txt_gr (n c : Nat) (f : Nat → Nat) (hf : ∀ j, f j < 256) : (txt n fun j => gm c (bn (txt n f) j)) = txt n fun j => gm c (f j) := txt_congr (fun j hj => by show gm c (bn (txt n f) j) = _; rw [bn_txt n f j hj (hf j)])
theorem txt_fr (n : Nat) (g f : Nat → Nat) (hf : ∀ j, f j < 256) : (txt n fun j => g j ^^^ bn (txt n f) j) = txt n fun j => g j ^^^ f j := txt_congr (fun j hj => by show g j ^^^ bn (txt n f) j = _; rw [bn_txt n f j hj (hf j)])
theorem impl_xors (a b : ByteArray) (h : a.size ≤ b.size) (h2 : a.size ≤ 2 ^ 40) : impl_xor.f a b = some (txt a.size fun j => bn a j ^^^ bn b j) := by
 unfold impl_xor.f txt lst; rw [if_pos ⟨h, by omega⟩]
 congr 2
 refine List.map_congr_left (fun j _ => ?_)
 rw [bt_bn, bt_bn]
 exact xor_u8 _ _ (bn_lt a j) (bn_lt b j)
theorem impl_xort (n : Nat) (f : Nat → Nat) (b : ByteArray) (hf : ∀ j, f j < 256) (h : n ≤ b.size) (h2 : n ≤ 2 ^ 40) : impl_xor.f (txt n f) b = some (txt n fun j => f j ^^^ bn b j) := by
 rw [impl_xors _ _ (by rw [txt_size]; exact h) (by rw [txt_size]; exact h2), txt_size]
 rw [txt_congr (fun j hj => by rw [bn_txt n f j hj (hf j)])]
theorem ev_weighed (s : ByteArray) (i : Nat) (hs : s.size ≤ 2 ^ 40) (hi : i < 2 ^ 40) : Ev (fun k => impl_weighed.f k s (i : Int)) (txt s.size fun j => gm (ex i) (bn s j)) := ev_of (i + 400) fun k hk => by
 unfold impl_weighed.f txt lst; rw [if_pos (by omega), show (2 : Int) = ((2 : Nat) : Int) from rfl, impl_pow k 2 i (by omega) (by omega) (by omega), gp_two]; simp only [Option.bind_some]
 rw [Bytes.allOf_of (f := fun j => ((gm (ex i) (bn s j) : Nat) : Int)) s.size (fun j _ => by rw [bt_bn, impl_mul k _ _ (by omega) (bn_lt s j) (ex_lt i), gm_comm _ _ (bn_lt s j) (ex_lt i)])]
 rfl
theorem even_all {xs : List ByteArray} {n : Nat} (h : even xs = true) (hn : n = (xs.getD 0 ByteArray.empty).size) : 1 ≤ xs.length ∧ xs.length ≤ 16 ∧ n ≤ 40 ∧ ∀ x ∈ xs, x.size = n := by subst hn; exact even_pos h
def pP : List ByteArray → Nat → Nat
 | [], _ => 0
 | s :: l, j => bn s j ^^^ pP l j
def pQ : List ByteArray → Nat → Nat → Nat
 | [], _, _ => 0
 | s :: l, i, j => gm (ex i) (bn s j) ^^^ pQ l (i + 1) j
theorem pP_lt (l : List ByteArray) (j : Nat) : pP l j < 256 := by
 induction l with
 | nil => exact Nat.zero_lt_succ _
 | cons s l ih => exact xor_lt _ _ (bn_lt s j) ih
theorem pQ_lt (l : List ByteArray) : ∀ i j : Nat, pQ l i j < 256 := by
 induction l with
 | nil => intro i j; exact Nat.zero_lt_succ _
 | cons s l ih => intro i j; exact xor_lt _ _ (gm_lt _ _ (ex_lt i)) (ih _ _)
theorem drop_at (xs : List ByteArray) (i : Nat) (h : i < xs.length) : xs.drop i = xs.getD i ByteArray.empty :: xs.drop (i + 1) := by
 rw [List.drop_eq_getElem_cons h]; simp [List.getD_eq_getElem?_getD, h]
theorem impl_par_l (n : Nat) (hn : n ≤ 2 ^ 40) (xs : List ByteArray) (hx : ∀ x ∈ xs, x.size = n) (hl : xs.length < 2 ^ 40) (d : Nat) : ∀ (i : Nat) (f g : Nat → Nat), i + d = xs.length → (∀ j, f j < 256) → (∀ j, g j < 256) →
  Ev (fun k => impl_parities.l0 k (txt n f) (txt n g) xs (xs.length : Int) (i : Int)) (txt n fun j => f j ^^^ pP (xs.drop i) j, txt n fun j => g j ^^^ pQ (xs.drop i) i j) := by
 induction d with
 | zero =>
  intro i f g hi hf hg; rw [List.drop_eq_nil_of_le (by omega)]; simp only [pP, pQ, Nat.xor_zero]
  exact Ev.step (fun k => by simp only [impl_parities.l0]; rw [if_neg (by omega)]) (Ev.now _)
 | succ d ih =>
  intro i f g hi hf hg
  have hs := hx _ (gmem ByteArray.empty (show i < xs.length by omega))
  rw [drop_at xs i (by omega)]; simp only [pP, pQ]
  refine Ev.step (fun k => by simp only [impl_parities.l0]; rw [if_pos (by omega), if_pos (by omega), if_pos (by omega), rdOf_nat, inc i (by omega)]) ?_
  refine ev_to_some (impl_xort n f _ hf (by omega) hn) (Ev.bind (ev_weighed _ i (by omega) (by omega)) ?_)
  rw [hs]
  refine ev_to_some (impl_xort n g _ hg (by rw [txt_size]; exact Nat.le_refl _) hn) ?_
  have h := ih (i + 1) (fun j => f j ^^^ bn (xs.getD i ByteArray.empty) j) (fun j => g j ^^^ gm (ex i) (bn (xs.getD i ByteArray.empty) j)) (by omega) (fun j => xor_lt _ _ (hf j) (bn_lt _ j)) (fun j => xor_lt _ _ (hg j) (gm_lt _ _ (ex_lt i)))
  simp only [Nat.xor_assoc] at h
  rw [txt_congr (f := fun j => g j ^^^ bn (txt n fun j => gm (ex i) (bn (xs.getD i ByteArray.empty) j)) j) (g := fun j => g j ^^^ gm (ex i) (bn (xs.getD i ByteArray.empty) j)) (fun j hj => by rw [bn_txt n (fun j => gm (ex i) (bn (xs.getD i ByteArray.empty) j)) j hj (gm_lt _ _ (ex_lt i))])]
  exact h
theorem impl_par {xs : List ByteArray} {n : Nat} (h : even xs = true) (hn : n = (xs.getD 0 ByteArray.empty).size) : Ev (fun k => impl_parities.f k xs) (txt n (pP xs), txt n (pQ xs 0)) := by
 have he := even_all h hn
 unfold impl_parities.f; rw [show rdOf ByteArray.empty xs 0 = xs.getD 0 ByteArray.empty from rfl, ← hn]
 refine evp (by omega) (evp (by omega) (evp (by omega) (ev_some ?_)))
 rw [Int.toNat_natCast, lst_zero]
 have h2 := impl_par_l n (by omega) xs he.2.2.2 (by omega) xs.length 0 (fun _ => 0) (fun _ => 0) (by omega) (fun _ => by decide) (fun _ => by decide)
 simp only [Nat.zero_xor, List.drop_zero] at h2
 exact h2
theorem ev_smul (a b : Nat) (ha : a < 256) (hb : b < 256) : Ev (fun k => spec_l2Mul.f k (a : Int) (b : Int)) ((gm a b : Nat) : Int) := ev_of 20 fun k hk => spec_mul k a b (by omega) ha hb
theorem ev_smul2 (a : Nat) (ha : a < 256) : Ev (fun k => spec_l2Mul.f k (a : Int) 2) ((xt a : Nat) : Int) := by have h := ev_smul a 2 ha (by decide); rw [gm_two a ha] at h; exact h
theorem lst_mid (n : Nat) (f u : Nat → Nat) (t : Nat) : lst n (fun j => if t + 1 ≤ j then (if j = t then f t ^^^ u t else f j) ^^^ u j else if j = t then f t ^^^ u t else f j) = lst n (fun j => if t ≤ j then f j ^^^ u j else f j) := by
 refine lst_congr (fun j hj => ?_)
 by_cases h1 : j = t
 ·subst h1; rw [if_neg (by omega), if_pos rfl, if_pos (Nat.le_refl _)]
 ·by_cases h2 : t ≤ j
  ·rw [if_pos (by omega), if_pos h2, if_neg h1]
  ·rw [if_neg (by omega), if_neg h2, if_neg h1]
theorem spec_par_in (n : Nat) (hn : n ≤ 2 ^ 40) (c : Nat) (hc : c < 256) (s : ByteArray) (hs : s.size = n) (xs : List ByteArray) (L I : Int) (r : ByteArray × ByteArray) (d : Nat) : ∀ (t : Nat) (f g : Nat → Nat), t + d = n → (∀ j, f j < 256) → (∀ j, g j < 256) →
  Ev (fun k => spec_l3Parities.l0 k (lst n fun j => if t ≤ j then f j ^^^ bn s j else f j) (lst n fun j => if t ≤ j then g j ^^^ gm c (bn s j) else g j) ((xt c : Nat) : Int) xs L (wrap64 (I + 1))) r →
  Ev (fun k => spec_l3Parities.l1 k (lst n f) (lst n g) (c : Int) s xs L I (n : Int) (t : Int)) r := by
 induction d with
 | zero =>
  intro t f g ht hf hg h
  refine Ev.step (fun k => by simp only [spec_l3Parities.l1]; rw [if_neg (by omega)]) (Ev.bind (ev_smul2 c hc) ?_)
  rw [lst_congr (f := fun j => if t ≤ j then f j ^^^ bn s j else f j) (g := f) (fun j hj => if_neg (by omega)), lst_congr (f := fun j => if t ≤ j then g j ^^^ gm c (bn s j) else g j) (g := g) (fun j hj => if_neg (by omega))] at h
  exact h
 | succ d ih =>
  intro t f g ht hf hg h
  have e1 : Go.bits .xor .u8 (rd (lst n f) (t : Int)) (bt s (t : Int)) = ((f t ^^^ bn s t : Nat) : Int) := by rw [lst_rd n f t (by omega), bt_bn]; exact xor_u8 _ _ (hf t) (bn_lt s t)
  have e2 : Go.bits .xor .u8 (rd (lst n g) (t : Int)) ((gm c (bn s t) : Nat) : Int) = ((g t ^^^ gm c (bn s t) : Nat) : Int) := by rw [lst_rd n g t (by omega)]; exact xor_u8 _ _ (hg t) (gm_lt _ _ hc)
  refine Ev.step (fun k => by simp only [spec_l3Parities.l1]; rw [if_pos (by omega), if_pos (by omega), if_pos (by rw [lst_len]; omega), if_pos (by omega), if_pos (by rw [lst_len]; omega), e1, bt_bn, Int.toNat_natCast, lst_set n f t _ (by omega), inc t (by omega)]) ?_
  refine Ev.bind (ev_smul c (bn s t) hc (bn_lt s t)) ?_
  rw [e2, lst_set n g t _ (by omega)]
  refine ih (t + 1) _ _ (by omega) (fun j => ?_) (fun j => ?_) ?_
  ·split
   ·exact xor_lt _ _ (hf t) (bn_lt s t)
   ·exact hf j
  ·split
   ·exact xor_lt _ _ (hg t) (gm_lt _ _ hc)
   ·exact hg j
  ·have ea := lst_mid n f (bn s) t
   have eb := lst_mid n g (fun j => gm c (bn s j)) t
   rw [ea, eb]
   exact h
theorem spec_par_l (n : Nat) (hn : n ≤ 2 ^ 40) (xs : List ByteArray) (hx : ∀ x ∈ xs, x.size = n) (hl : xs.length < 2 ^ 40) (d : Nat) : ∀ (i : Nat) (f g : Nat → Nat), i + d = xs.length → (∀ j, f j < 256) → (∀ j, g j < 256) →
  Ev (fun k => spec_l3Parities.l0 k (lst n f) (lst n g) ((ex i : Nat) : Int) xs (xs.length : Int) (i : Int)) (txt n fun j => f j ^^^ pP (xs.drop i) j, txt n fun j => g j ^^^ pQ (xs.drop i) i j) := by
 induction d with
 | zero =>
  intro i f g hi hf hg; rw [List.drop_eq_nil_of_le (by omega)]; simp only [pP, pQ, Nat.xor_zero]
  exact Ev.step (fun k => by simp only [spec_l3Parities.l0]; rw [if_neg (by omega)]; rfl) (Ev.now _)
 | succ d ih =>
  intro i f g hi hf hg
  have hs := hx _ (gmem ByteArray.empty (show i < xs.length by omega))
  rw [drop_at xs i (by omega)]; simp only [pP, pQ]
  refine Ev.step (fun k => by simp only [spec_l3Parities.l0]; rw [if_pos (by omega), if_pos (by omega), if_pos (by omega), rdOf_nat, lst_len]) ?_
  refine spec_par_in n hn (ex i) (ex_lt i) _ hs xs _ _ _ n 0 f g (by omega) hf hg ?_
  rw [inc i (by omega)]
  have h := ih (i + 1) (fun j => f j ^^^ bn (xs.getD i ByteArray.empty) j) (fun j => g j ^^^ gm (ex i) (bn (xs.getD i ByteArray.empty) j)) (by omega) (fun j => xor_lt _ _ (hf j) (bn_lt _ j)) (fun j => xor_lt _ _ (hg j) (gm_lt _ _ (ex_lt i)))
  simp only [Nat.xor_assoc] at h; simp only [Nat.zero_le, if_true]
  exact h
theorem spec_par {xs : List ByteArray} {n : Nat} (h : even xs = true) (hn : n = (xs.getD 0 ByteArray.empty).size) : Ev (fun k => spec_l3Parities.f k xs) (txt n (pP xs), txt n (pQ xs 0)) := by
 have he := even_all h hn
 unfold spec_l3Parities.f; rw [show rdOf ByteArray.empty xs 0 = xs.getD 0 ByteArray.empty from rfl, ← hn]
 refine evp (by omega) (evp (by omega) (evp (by omega) ?_))
 rw [Int.toNat_natCast, lst_zero]
 have h2 := spec_par_l n (by omega) xs he.2.2.2 (by omega) xs.length 0 (fun _ => 0) (fun _ => 0) (by omega) (fun _ => by decide) (fun _ => by decide)
 simp only [Nat.zero_xor, List.drop_zero] at h2
 exact h2
theorem good_even {xs : List ByteArray} {p q : ByteArray} (h : goodS xs p q = true) : even xs = true := by
 unfold goodS at h; rw [Bool.and_eq_true] at h; exact h.1
def right (xs : List ByteArray) (p q : ByteArray) : Bool := decide (p.toList = (txt (xs.getD 0 ByteArray.empty).size (pP xs)).toList) && decide (q.toList = (txt (xs.getD 0 ByteArray.empty).size (pQ xs 0)).toList)
theorem beq_dec (a b : List UInt8) : (a == b) = decide (a = b) := by
 by_cases h : a = b
 ·subst h; rw [beq_self_eq_true, decide_eq_true rfl]
 ·rw [decide_eq_false h, beq_eq_false_iff_ne.mpr h]
theorem impl_right {xs : List ByteArray} (p q : ByteArray) (h : even xs = true) : Ev (fun k => impl_isConsistent.f k xs p q) (right xs p q) := by
 unfold impl_isConsistent.f right
 refine Ev.bind (impl_par h rfl) ?_
 by_cases hp : p.toList = (txt (xs.getD 0 ByteArray.empty).size (pP xs)).toList
 ·refine evp hp ?_
  rw [decide_eq_true hp, Bool.true_and, beq_dec]
  exact Ev.now _
 ·refine evn hp ?_
  rw [decide_eq_false hp]; exact Ev.now _
theorem isDisk (xs : List ByteArray) (p q : ByteArray) (a : Int) (hx : xs.length < 2 ^ 40) : impl_isDisk.f xs p q a = some (goodS xs p q && decide (a ≥ 0 ∧ a ≤ (xs.length : Int) + 1)) := by
 have w1 : wrap64 ((xs.length : Int) + 1) = (xs.length : Int) + 1 := by unfold wrap64; omega
 unfold impl_isDisk.f; rw [impl_good]
 cases hg : goodS xs p q with
 | false => rfl
 | true =>
  simp only [Option.bind_some, if_true, Bool.true_and]; rw [within_tells, w1]
  rfl
theorem clone (xs : List ByteArray) (hl : xs.length < 2 ^ 40) : slices_Clone_string_string.f xs = some xs := by unfold slices_Clone_string_string.f; rw [if_pos (by omega)]
theorem own (xs : List ByteArray) (p q : ByteArray) (hl : xs.length < 2 ^ 40) : spec_l3Own.f xs p q = some (xs, p, q) := by
 unfold spec_l3Own.f; simp only [Option.bind_some, List.nil_append, List.length_nil]; rw [if_pos (by omega)]
theorem good_all {xs : List ByteArray} {p q : ByteArray} {n : Nat} (h : goodS xs p q = true) (hn : n = (xs.getD 0 ByteArray.empty).size) : p.size = n ∧ q.size = n ∧ 1 ≤ xs.length ∧ xs.length ≤ 16 ∧ n ≤ 40 ∧ ∀ x ∈ xs, x.size = n := by
 have he := even_all (good_even h) hn
 unfold goodS at h; rw [Bool.and_eq_true, Bool.and_eq_true] at h
 have h1 := of_decide_eq_true h.2.1
 have h2 := of_decide_eq_true h.2.2
 exact ⟨by rw [hn]; exact h1, by rw [hn]; exact h2, he⟩
theorem spec_xort (n : Nat) (f : Nat → Nat) (b : ByteArray) (hf : ∀ j, f j < 256) (h : n ≤ b.size) (h2 : n ≤ 2 ^ 40) : spec_l3Xor.f (txt n f) b = some (txt n fun j => f j ^^^ bn b j) := impl_xort n f b hf h h2
theorem ev_times (c : Nat) (hc : c < 256) (s : ByteArray) (hs : s.size ≤ 2 ^ 40) : Ev (fun k => spec_l3Times.f k (c : Int) s) (txt s.size fun j => gm c (bn s j)) := ev_of 400 fun k hk => by
 unfold spec_l3Times.f txt lst
 rw [if_pos (by omega), Bytes.allOf_of (f := fun j => ((gm c (bn s j) : Nat) : Int)) s.size (fun j _ => by rw [bt_bn, spec_mul k _ _ (by omega) hc (bn_lt s j)])]
 rfl
theorem ev_pow2 (i : Nat) (hi : i < 2 ^ 40) : Ev (fun k => spec_l2Pow.f k 2 (i : Int)) ((ex i : Nat) : Int) := ev_of (i + 40) fun k hk => by
 rw [show (2 : Int) = ((2 : Nat) : Int) from rfl, spec_pow k 2 i (by omega) (by omega) (by omega), gp_two]
def zer (n : Nat) : ByteArray := txt n fun _ => 0
def blank (xs : List ByteArray) (n l : Nat) : List ByteArray := if l < xs.length then xs.set l (zer n) else xs
theorem blank_len (xs : List ByteArray) (n l : Nat) : (blank xs n l).length = xs.length := by unfold blank; split <;> simp
theorem zeros (n : Nat) : strOfNums (List.replicate n 0) = zer n := by rw [lst_zero]; rfl
theorem wo_step (xs : List ByteArray) (p q : ByteArray) (L : List Int) (i l : Nat) (ys : List ByteArray) (r : List ByteArray × ByteArray × ByteArray) (hL : L.length < 2 ^ 40) (hi : i < L.length) (hl : rd L (i : Int) = (l : Int)) (hp : p.size < 2 ^ 40) (hys : ys.length = xs.length)
  (h : Ev (fun k => impl_without.l0 k L (L.length : Int) ((i + 1 : Nat) : Int) xs p q (blank ys p.size l) p q) r) : Ev (fun k => impl_without.l0 k L (L.length : Int) (i : Int) xs p q ys p q) r := by
 by_cases hlt : l < xs.length
 ·refine Ev.step (fun k => ?_) h
  simp only [impl_without.l0]; rw [if_pos (by omega), if_pos (by omega), if_pos (by omega), hl, if_pos (by omega), if_pos (by omega), if_pos (by omega), if_pos (by omega), if_pos (by omega), Int.toNat_natCast, Int.toNat_natCast, zeros, inc i (by omega)]; unfold blank; rw [if_pos (by omega)]
 ·refine Ev.step (fun k => ?_) h
  simp only [impl_without.l0]; rw [if_pos (by omega), if_pos (by omega), if_pos (by omega), hl, if_neg (by omega), inc i (by omega)]; unfold blank; rw [if_neg (by omega)]
theorem wo_end (xs : List ByteArray) (p q : ByteArray) (L : List Int) (i : Nat) (ys : List ByteArray) (hi : i = L.length) : Ev (fun k => impl_without.l0 k L (L.length : Int) (i : Int) xs p q ys p q) (ys, p, q) := by
 subst hi
 exact Ev.step (fun k => by simp only [impl_without.l0]; rw [if_neg (by omega)]) (Ev.now _)
theorem wo_one (xs : List ByteArray) (p q : ByteArray) (l : Nat) (hl : xs.length < 2 ^ 40) (hp : p.size < 2 ^ 40) : Ev (fun k => impl_without.f k xs p q ([(l : Int)] : List Int)) (blank xs p.size l, p, q) := by
 unfold impl_without.f
 refine ev_to_some (clone xs hl) ?_
 exact wo_step xs p q [(l : Int)] 0 l xs _ (by simp) (by simp) rfl hp rfl (wo_end xs p q [(l : Int)] 1 _ rfl)
theorem even_of {xs : List ByteArray} {n : Nat} (h1 : 1 ≤ xs.length) (h2 : xs.length ≤ 16) (h3 : n ≤ 40) (h4 : ∀ x ∈ xs, x.size = n) : even xs = true ∧ n = (xs.getD 0 ByteArray.empty).size := by
 have h0 : (xs.getD 0 ByteArray.empty).size = n := h4 _ (gmem ByteArray.empty (by omega))
 refine ⟨?_, h0.symm⟩
 unfold even; rw [Bool.and_eq_true, Bool.and_eq_true]
 refine ⟨decide_eq_true ⟨h1, h2⟩, decide_eq_true (by omega), ?_⟩
 rw [Bool.not_eq_true', List.any_eq_false]; intro x hx; rw [h4 x hx, h0]
 simp
theorem blank_all {xs : List ByteArray} {n : Nat} (l : Nat) (h4 : ∀ x ∈ xs, x.size = n) : ∀ x ∈ blank xs n l, x.size = n := by
 intro x hx; unfold blank at hx
 split at hx
 ·rcases List.mem_or_eq_of_mem_set hx with h | h
  ·exact h4 x h
  ·rw [h]; exact txt_size _ _
 ·exact h4 x hx
def one (xs : List ByteArray) (p q : ByteArray) (n l : Nat) : List ByteArray × ByteArray × ByteArray :=
 if l < xs.length then ((blank xs n l).set l (txt n fun j => pP (blank xs n l) j ^^^ bn p j), p, q)
 else if l = xs.length then (blank xs n l, txt n (pP (blank xs n l)), q) else (blank xs n l, p, txt n (pQ (blank xs n l) 0))
section
variable {xs : List ByteArray} {n : Nat} (h1 : 1 ≤ xs.length) (h2 : xs.length ≤ 16) (h3 : n ≤ 40) (h4 : ∀ x ∈ xs, x.size = n)
include h1 h2 h3 h4
theorem impl_one (p q : ByteArray) (l : Nat) (hp : p.size = n) (hl : l ≤ xs.length + 1) : Ev (fun k => impl_recoverOne.f k xs p q (l : Int)) (one xs p q n l) := by
 obtain ⟨he, hn⟩ := even_of (xs := blank xs n l) (by rw [blank_len]; exact h1) (by rw [blank_len]; exact h2) h3 (blank_all l h4)
 have hw := wo_one xs p q l (by omega) (by omega)
 rw [hp] at hw; unfold impl_recoverOne.f one
 refine Ev.bind hw (Ev.bind (impl_par he hn) ?_)
 have w1 : wrap64 ((l : Int) - (xs.length : Int)) = (l : Int) - (xs.length : Int) := by unfold wrap64; omega
 rw [w1]
 by_cases c1 : l < xs.length
 ·rw [if_pos c1]
  refine evn (by omega) (evn (by omega) (ev_to_some (impl_xort n _ p (pP_lt _) (by omega) (by omega)) (evp (by omega) (evp (by rw [blank_len]; omega) ?_))))
  rw [Int.toNat_natCast]
  exact Ev.now _
 ·rw [if_neg c1]
  by_cases c2 : l = xs.length
  ·rw [if_pos c2]
   exact evp (by omega) (Ev.now _)
  ·rw [if_neg c2]
   exact evn (by omega) (evp (by omega) (Ev.now _))
end
section
variable {xs : List ByteArray} {n : Nat} (h1 : 1 ≤ xs.length) (h2 : xs.length ≤ 16) (h3 : n ≤ 40) (h4 : ∀ x ∈ xs, x.size = n)
include h1 h2 h3 h4
theorem spec_one (p q : ByteArray) (l : Nat) (hp : p.size = n) (hq : q.size ≤ 2 ^ 40) (hl : l ≤ xs.length + 1) : Ev (fun k => spec_l3One.f k xs p q (l : Int)) (one xs p q n l) := by
 obtain ⟨he, hn⟩ := even_of (xs := blank xs n l) (by rw [blank_len]; exact h1) (by rw [blank_len]; exact h2) h3 (blank_all l h4)
 have hz : ∀ m : Nat, m ≤ 2 ^ 40 → spec_l1Zeros.f (m : Int) = some (zer m) := fun m hm => by
  unfold spec_l1Zeros.f; rw [if_pos (by omega), if_pos (by omega), Int.toNat_natCast, zeros]
 unfold spec_l3One.f one
 by_cases c1 : l < xs.length
 ·have hb : spec_l3Blank.f xs p q (l : Int) = some (blank xs n l, p, q) := by
   unfold spec_l3Blank.f; rw [own xs p q (by omega)]; simp only [Option.bind_some]; rw [if_pos (by omega), hz p.size (by omega)]; simp only [Option.bind_some]; rw [if_pos (by omega), Int.toNat_natCast, hp]; unfold blank; rw [if_pos c1]
  rw [if_pos c1]
  refine ev_to_some hb (Ev.bind (spec_par he hn) (evp (by rw [blank_len]; omega) (ev_to_some (spec_xort n _ p (pP_lt _) (by omega) (by omega)) (evp (by omega) ?_))))
  rw [Int.toNat_natCast]
  exact Ev.now _
 ·have hbl : blank xs n l = xs := by unfold blank; rw [if_neg c1]
  rw [if_neg c1]
  by_cases c2 : l = xs.length
  ·have hb : spec_l3Blank.f xs p q (l : Int) = some (blank xs n l, zer n, q) := by
    unfold spec_l3Blank.f; rw [own xs p q (by omega)]; simp only [Option.bind_some]; rw [if_neg (by omega), if_pos (by omega), hz p.size (by omega), hp, hbl]
    rfl
   rw [if_pos c2]
   exact ev_to_some hb (Ev.bind (spec_par he hn) (evn (by rw [blank_len]; omega) (evp (by rw [blank_len]; omega) (Ev.now _))))
  ·have hb : spec_l3Blank.f xs p q (l : Int) = some (blank xs n l, p, zer q.size) := by
    unfold spec_l3Blank.f; rw [own xs p q (by omega)]; simp only [Option.bind_some]; rw [if_neg (by omega), if_neg (by omega), hz q.size (by omega), hbl]
    rfl
   rw [if_neg c2]
   exact ev_to_some hb (Ev.bind (spec_par he hn) (evn (by rw [blank_len]; omega) (evn (by rw [blank_len]; omega) (Ev.now _))))
end
set_option linter.unusedSectionVars false
theorem ev_divided (s : ByteArray) (c : Nat) (hc : c < 256) (hs : s.size ≤ 2 ^ 40) : Ev (fun k => impl_divided.f k s (c : Int)) (txt s.size fun j => gm (GF.inv c) (bn s j)) := ev_of 400 fun k hk => by
 unfold impl_divided.f txt lst; rw [if_pos (by omega), impl_inv k c (by omega) hc]; simp only [Option.bind_some]
 rw [Bytes.allOf_of (f := fun j => ((gm (GF.inv c) (bn s j) : Nat) : Int)) s.size (fun j _ => by rw [bt_bn, impl_mul k _ _ (by omega) (bn_lt s j) (inv_lt c), gm_comm _ _ (bn_lt s j) (inv_lt c)])]
 rfl
theorem ev_ipow2 (i : Nat) (hi : i < 2 ^ 40) : Ev (fun k => impl_power.f k 2 (i : Int)) ((ex i : Nat) : Int) := ev_of (i + 40) fun k hk => by
 rw [show (2 : Int) = ((2 : Nat) : Int) from rfl, impl_pow k 2 i (by omega) (by omega) (by omega), gp_two]
theorem ev_sinv (a : Nat) (ha : a < 256) : Ev (fun k => spec_l2Inv.f k (a : Int)) ((GF.inv a : Nat) : Int) := ev_of 400 fun k hk => spec_inv k a (by omega) ha
theorem wo_two (xs : List ByteArray) (p q : ByteArray) (a b : Nat) (hl : xs.length < 2 ^ 40) (hp : p.size < 2 ^ 40) : Ev (fun k => impl_without.f k xs p q ([(a : Int), (b : Int)] : List Int)) (blank (blank xs p.size a) p.size b, p, q) := by
 unfold impl_without.f
 refine ev_to_some (clone xs hl) ?_
 exact wo_step xs p q [(a : Int), (b : Int)] 0 a xs _ (by simp) (by simp) rfl hp rfl (wo_step xs p q [(a : Int), (b : Int)] 1 b _ _ (by simp) (by simp) rfl hp (blank_len _ _ _) (wo_end xs p q [(a : Int), (b : Int)] 2 _ rfl))
theorem blank_off (xs : List ByteArray) (n l : Nat) (h : xs.length ≤ l) : blank xs n l = xs := by unfold blank; rw [if_neg (by omega)]
theorem blank_twice (xs : List ByteArray) (n l : Nat) : blank (blank xs n l) n l = blank xs n l := by
 by_cases h : l < xs.length
 ·unfold blank
  rw [if_pos h, if_pos (by rw [List.length_set]; exact h), List.set_set]
 ·rw [blank_off xs n l (by omega), blank_off xs n l (by omega)]
theorem set_all {xs : List ByteArray} {n : Nat} (l : Nat) (f : Nat → Nat) (h4 : ∀ x ∈ xs, x.size = n) : ∀ x ∈ xs.set l (txt n f), x.size = n := by
 intro x hx
 rcases List.mem_or_eq_of_mem_set hx with h | h
 ·exact h4 x h
 ·rw [h]; exact txt_size _ _
def two (xs : List ByteArray) (p q : ByteArray) (n a b : Nat) : List ByteArray × ByteArray × ByteArray :=
 let ys := blank (blank xs n a) n b
 if a = xs.length then (ys, txt n (pP ys), txt n (pQ ys 0))
 else if b = xs.length then
  let zs := ys.set a (txt n fun j => gm (GF.inv (ex a)) (pQ ys 0 j ^^^ bn q j))
  (zs, txt n (pP zs), q)
 else if b = xs.length + 1 then
  let zs := ys.set a (txt n fun j => pP ys j ^^^ bn p j)
  (zs, p, txt n (pQ zs 0))
 else
  ((ys.set a (txt n fun j => gm (GF.inv (ex a ^^^ ex b)) ((pQ ys 0 j ^^^ bn q j) ^^^ gm (ex b) (pP ys j ^^^ bn p j)))).set b
   (txt n fun j => (pP ys j ^^^ bn p j) ^^^ gm (GF.inv (ex a ^^^ ex b)) ((pQ ys 0 j ^^^ bn q j) ^^^ gm (ex b) (pP ys j ^^^ bn p j))), p, q)
theorem two_len (xs : List ByteArray) (p q : ByteArray) (n a b : Nat) : (two xs p q n a b).1.length = xs.length := by
 unfold two; simp only []
 split
 ·simp only [blank_len]
 ·split
  ·simp only [List.length_set, blank_len]
  ·split <;> simp only [List.length_set, blank_len]
section
variable {xs : List ByteArray} {n : Nat} (h1 : 1 ≤ xs.length) (h2 : xs.length ≤ 16) (h3 : n ≤ 40) (h4 : ∀ x ∈ xs, x.size = n)
include h1 h2 h3 h4
theorem impl_two_end (p q : ByteArray) (a b : Nat) (hab : a < b) (hb : b < xs.length) (ys : List ByteArray) (hyl : ys.length = xs.length) (B Q : Nat → Nat) (hBo : ∀ j, B j < 256) (hQo : ∀ j, Q j < 256) :
  Ev (fun k => (impl_weighed.f k (txt n B) (b : Int)).bind fun t307 => ((impl_xor.f (txt n Q) t307).bind fun t308 => ((impl_power.f k 2 (a : Int)).bind fun t309 => ((impl_power.f k 2 (b : Int)).bind fun t310 => ((impl_divided.f k t308 (Go.bits .xor .u8 t309 t310)).bind fun t311 => (if 0 ≤ (a : Int) then (if (a : Int) < (ys.length : Int) then ((some (ys.set (a : Int).toNat t311 : List ByteArray)).bind fun y312 => ((impl_xor.f (txt n B) (rdOf ByteArray.empty y312 (a : Int))).bind fun t314 => (if 0 ≤ (b : Int) then (if (b : Int) < (ys.length : Int) then (some ((y312.set (b : Int).toNat t314), p, q, true)) else (none)) else (none)))) else (none)) else (none)))))))
  ((ys.set a (txt n fun j => gm (GF.inv (ex a ^^^ ex b)) (Q j ^^^ gm (ex b) (B j)))).set b (txt n fun j => B j ^^^ gm (GF.inv (ex a ^^^ ex b)) (Q j ^^^ gm (ex b) (B j))), p, q, true) := by
 have hwe := ev_weighed (txt n B) b (by rw [txt_size]; omega) (by omega)
 rw [txt_size, txt_gr n _ _ hBo] at hwe
 have hT : ∀ j, Q j ^^^ gm (ex b) (B j) < 256 := fun j => xor_lt _ _ (hQo j) (gm_lt _ _ (ex_lt b))
 have hD : ∀ j, gm (GF.inv (ex a ^^^ ex b)) (Q j ^^^ gm (ex b) (B j)) < 256 := fun j => gm_lt _ _ (inv_lt _)
 have x1 := impl_xort n Q (txt n fun j => gm (ex b) (B j)) hQo (by rw [txt_size]; omega) (by omega)
 rw [txt_fr n _ _ (fun j => gm_lt _ _ (ex_lt b))] at x1
 have hd := ev_divided (txt n fun j => Q j ^^^ gm (ex b) (B j)) (ex a ^^^ ex b) (xor_lt _ _ (ex_lt a) (ex_lt b)) (by rw [txt_size]; omega)
 rw [txt_size, txt_gr n _ _ hT] at hd
 have x2 := impl_xort n B (txt n fun j => gm (GF.inv (ex a ^^^ ex b)) (Q j ^^^ gm (ex b) (B j))) hBo (by rw [txt_size]; omega) (by omega)
 rw [txt_fr n _ _ hD] at x2
 refine Ev.bind hwe (ev_to_some x1 (Ev.bind (ev_ipow2 a (by omega)) (Ev.bind (ev_ipow2 b (by omega)) ?_)))
 rw [xor_u8 _ _ (ex_lt a) (ex_lt b)]
 refine Ev.bind hd (evp (by omega) (evp (by omega) (ev_some ?_)))
 rw [Int.toNat_natCast, Int.toNat_natCast, rdOf_nat, gset _ _ _ _ _ (by omega), if_pos rfl]
 exact ev_to_some x2 (evp (by omega) (evp (by omega) (Ev.now _)))
theorem impl_two (p q : ByteArray) (a b : Nat) (hp : p.size = n) (hq : q.size = n) (hab : a < b) (hb : b ≤ xs.length + 1) :
  Ev (fun k => impl_RecoverTwo.j0 k (a : Int) (b : Int) false xs p q) ((two xs p q n a b).1, (two xs p q n a b).2.1, (two xs p q n a b).2.2, true) ∧
  Ev (fun k => impl_RecoverTwo.j0 k (b : Int) (a : Int) false xs p q) ((two xs p q n a b).1, (two xs p q n a b).2.1, (two xs p q n a b).2.2, true) := by
 have main : ∀ u v : Int, mn u v = (a : Int) → mx u v = (b : Int) → Ev (fun k => impl_RecoverTwo.j0 k u v false xs p q) ((two xs p q n a b).1, (two xs p q n a b).2.1, (two xs p q n a b).2.2, true) := by
  intro u v hu hv
  have w1 : wrap64 ((xs.length : Int) + 1) = (xs.length : Int) + 1 := by unfold wrap64; omega
  refine Ev.step (fun k => by simp only [impl_RecoverTwo.j0]; rw [if_neg (by decide), hu, hv, w1]) ?_
  have hw := wo_two xs p q a b (by omega) (by omega)
  rw [hp] at hw
  have hys := blank_all b (blank_all a h4)
  have hyl : (blank (blank xs n a) n b).length = xs.length := by rw [blank_len, blank_len]
  unfold two; simp only []
  refine Ev.bind hw ?_
  show Ev (fun k => (impl_parities.f k (blank (blank xs n a) n b)).bind _) _
  generalize hY : blank (blank xs n a) n b = ys at hys hyl
  obtain ⟨he, hn⟩ := even_of (xs := ys) (by omega) (by omega) h3 hys
  refine Ev.bind (impl_par he hn) ?_
  by_cases c1 : a = xs.length
  ·rw [if_pos c1]
   exact evp (by omega) (Ev.now _)
  ·rw [if_neg c1]
   refine evn (by omega) ?_
   by_cases c2 : b = xs.length
   ·rw [if_pos c2]
    refine evp (by omega) (ev_to_some (impl_xort n _ q (pQ_lt _ 0) (by omega) (by omega)) (Ev.bind (ev_ipow2 a (by omega)) ?_))
    have hd := ev_divided (txt n fun j => pQ ys 0 j ^^^ bn q j) (ex a) (ex_lt a) (by rw [txt_size]; omega)
    rw [txt_size, txt_gr n _ _ (fun j => xor_lt _ _ (pQ_lt _ _ _) (bn_lt q j))] at hd
    refine Ev.bind hd (evp (by omega) (evp (by show (a : Int) < (ys.length : Int); omega) (ev_some ?_)))
    rw [Int.toNat_natCast]
    have hzs := set_all a (fun j => gm (GF.inv (ex a)) (pQ ys 0 j ^^^ bn q j)) hys
    generalize hZ : ys.set a (txt n fun j => gm (GF.inv (ex a)) (pQ ys 0 j ^^^ bn q j)) = zs at hzs
    have hzl : zs.length = xs.length := by rw [← hZ, List.length_set]; exact hyl
    obtain ⟨he2, hn2⟩ := even_of (xs := zs) (by omega) (by omega) h3 hzs
    exact Ev.bind (impl_par he2 hn2) (Ev.now _)
   ·rw [if_neg c2]
    refine evn (by omega) ?_
    by_cases c3 : b = xs.length + 1
    ·rw [if_pos c3]
     refine evp (by omega) (ev_to_some (impl_xort n _ p (pP_lt _) (by omega) (by omega)) (evp (by omega) (evp (by show (a : Int) < (ys.length : Int); omega) (ev_some ?_))))
     rw [Int.toNat_natCast]
     have hzs := set_all a (fun j => pP ys j ^^^ bn p j) hys
     generalize hZ : ys.set a (txt n fun j => pP ys j ^^^ bn p j) = zs at hzs
     have hzl : zs.length = xs.length := by rw [← hZ, List.length_set]; exact hyl
     obtain ⟨he2, hn2⟩ := even_of (xs := zs) (by omega) (by omega) h3 hzs
     exact Ev.bind (impl_par he2 hn2) (Ev.now _)
    ·rw [if_neg c3]
     refine evn (by omega) (ev_to_some (impl_xort n _ p (pP_lt _) (by omega) (by omega)) (ev_to_some (impl_xort n _ q (pQ_lt _ 0) (by omega) (by omega)) ?_))
     have hBo : ∀ j, pP ys j ^^^ bn p j < 256 := fun j => xor_lt _ _ (pP_lt _ j) (bn_lt p j)
     have hQo : ∀ j, pQ ys 0 j ^^^ bn q j < 256 := fun j => xor_lt _ _ (pQ_lt _ 0 j) (bn_lt q j)
     exact impl_two_end h1 h2 h3 h4 p q a b hab (by omega) ys hyl (fun j => pP ys j ^^^ bn p j) (fun j => pQ ys 0 j ^^^ bn q j) hBo hQo
 constructor
 ·exact main _ _ (by unfold mn; split <;> omega) (by unfold mx; split <;> omega)
 ·exact main _ _ (by unfold mn; split <;> omega) (by unfold mx; split <;> omega)
theorem spec_two_end (p q : ByteArray) (a b : Nat) (hab : a < b) (hb : b < xs.length) (ys : List ByteArray) (hyl : ys.length = xs.length) (B Q : Nat → Nat) (hBo : ∀ j, B j < 256) (hQo : ∀ j, Q j < 256) :
  Ev (fun k => (spec_l2Pow.f k 2 (a : Int)).bind fun t227 => ((spec_l2Pow.f k 2 (b : Int)).bind fun t228 => ((spec_l2Inv.f k (Go.bits .xor .u8 t227 t228)).bind fun t229 => ((spec_l3Times.f k t228 (txt n B)).bind fun t230 => ((spec_l3Xor.f (txt n Q) t230).bind fun t231 => ((spec_l3Times.f k t229 t231).bind fun t232 => (if 0 ≤ (a : Int) then (if (a : Int) < (ys.length : Int) then ((some (ys.set (a : Int).toNat t232 : List ByteArray)).bind fun y233 => ((spec_l3Xor.f (rdOf ByteArray.empty y233 (a : Int)) (txt n B)).bind fun t235 => (if 0 ≤ (b : Int) then (if (b : Int) < (ys.length : Int) then (some ((y233.set (b : Int).toNat t235), p, q)) else (none)) else (none)))) else (none)) else (none))))))))
  ((ys.set a (txt n fun j => gm (GF.inv (ex a ^^^ ex b)) (Q j ^^^ gm (ex b) (B j)))).set b (txt n fun j => B j ^^^ gm (GF.inv (ex a ^^^ ex b)) (Q j ^^^ gm (ex b) (B j))), p, q) := by
 have hwe := ev_times (ex b) (ex_lt b) (txt n B) (by rw [txt_size]; omega)
 rw [txt_size, txt_gr n _ _ hBo] at hwe
 have hT : ∀ j, Q j ^^^ gm (ex b) (B j) < 256 := fun j => xor_lt _ _ (hQo j) (gm_lt _ _ (ex_lt b))
 have hD : ∀ j, gm (GF.inv (ex a ^^^ ex b)) (Q j ^^^ gm (ex b) (B j)) < 256 := fun j => gm_lt _ _ (inv_lt _)
 have x1 := spec_xort n Q (txt n fun j => gm (ex b) (B j)) hQo (by rw [txt_size]; omega) (by omega)
 rw [txt_fr n _ _ (fun j => gm_lt _ _ (ex_lt b))] at x1
 have hd := ev_times (GF.inv (ex a ^^^ ex b)) (inv_lt _) (txt n fun j => Q j ^^^ gm (ex b) (B j)) (by rw [txt_size]; omega)
 rw [txt_size, txt_gr n _ _ hT] at hd
 have x2 := spec_xort n (fun j => gm (GF.inv (ex a ^^^ ex b)) (Q j ^^^ gm (ex b) (B j))) (txt n B) hD (by rw [txt_size]; omega) (by omega)
 rw [txt_fr n _ _ hBo, show (txt n fun j => gm (GF.inv (ex a ^^^ ex b)) (Q j ^^^ gm (ex b) (B j)) ^^^ B j) = txt n fun j => B j ^^^ gm (GF.inv (ex a ^^^ ex b)) (Q j ^^^ gm (ex b) (B j)) from txt_congr (fun j hj => Nat.xor_comm _ _)] at x2
 refine Ev.bind (ev_pow2 a (by omega)) (Ev.bind (ev_pow2 b (by omega)) ?_)
 rw [xor_u8 _ _ (ex_lt a) (ex_lt b)]
 refine Ev.bind (ev_sinv _ (xor_lt _ _ (ex_lt a) (ex_lt b))) (Ev.bind hwe (ev_to_some x1 (Ev.bind hd (evp (by omega) (evp (by omega) (ev_some ?_))))))
 rw [Int.toNat_natCast, Int.toNat_natCast, rdOf_nat, gset _ _ _ _ _ (by omega), if_pos rfl]
 exact ev_to_some x2 (evp (by omega) (evp (by omega) (Ev.now _)))
theorem spec_blank (p q : ByteArray) (l : Nat) (hp : p.size = n) (hq : q.size = n) : spec_l3Blank.f xs p q (l : Int) = some (blank xs n l, if l = xs.length then zer n else p, if xs.length < l then zer n else q) := by
 have hz : ∀ m : Nat, m ≤ 2 ^ 40 → spec_l1Zeros.f (m : Int) = some (zer m) := fun m hm => by
  unfold spec_l1Zeros.f; rw [if_pos (by omega), if_pos (by omega), Int.toNat_natCast, zeros]
 unfold spec_l3Blank.f; rw [own xs p q (by omega)]; simp only [Option.bind_some]
 by_cases c1 : l < xs.length
 ·rw [if_pos (by omega), hz p.size (by omega), if_neg (by omega), if_neg (by omega)]
  simp only [Option.bind_some]; rw [if_pos (by omega), Int.toNat_natCast, hp]; unfold blank; rw [if_pos c1]
 ·rw [if_neg (by omega), blank_off xs n l (by omega)]
  by_cases c2 : l = xs.length
  ·rw [if_pos (by omega), hz p.size (by omega), if_pos c2, if_neg (by omega), hp]; rfl
  ·rw [if_neg (by omega), hz q.size (by omega), if_neg c2, if_pos (by omega), hq]; rfl
theorem spec_two (p q : ByteArray) (a b : Nat) (hp : p.size = n) (hq : q.size = n) (hab : a < b) (hb : b ≤ xs.length + 1) : Ev (fun k => spec_l3Two.f k xs p q (a : Int) (b : Int)) (two xs p q n a b) := by
 have w1 : wrap64 ((xs.length : Int) + 1) = (xs.length : Int) + 1 := by unfold wrap64; omega
 have hzn : (zer n).size = n := txt_size _ _
 have hbl : (blank xs n a).length = xs.length := blank_len _ _ _
 have hba := blank_all a h4
 unfold spec_l3Two.f
 refine ev_to_some (spec_blank h1 h2 h3 h4 p q a hp hq) ?_
 simp only []; rw [if_neg (show ¬ xs.length < a by omega), w1]
 have hp' : (if a = xs.length then zer n else p).size = n := by split <;> assumption
 refine ev_to_some (spec_blank (xs := blank xs n a) (by omega) (by omega) h3 hba _ q b hp' hq) ?_
 simp only []; rw [hbl]; unfold two; simp only []
 by_cases c1 : a = xs.length
 ·have hb1 : b = xs.length + 1 := by omega
  subst hb1; rw [if_pos c1, if_pos c1]; rw [blank_off xs n a (by omega), blank_off xs n (xs.length + 1) (by omega), if_neg (show ¬ xs.length + 1 = xs.length by omega), if_pos (show xs.length < xs.length + 1 by omega)]
  refine evp (by omega) ?_
  have o1 := spec_one h1 h2 h3 h4 (zer n) (zer n) a hzn (by omega) (by omega)
  have e1 : one xs (zer n) (zer n) n a = (xs, txt n (pP xs), zer n) := by
   unfold one; rw [if_neg (by omega), if_pos c1, blank_off xs n a (by omega)]
  rw [e1] at o1
  have o2 := spec_one h1 h2 h3 h4 (txt n (pP xs)) (zer n) (xs.length + 1) (txt_size _ _) (by omega) (by omega)
  have e2 : one xs (txt n (pP xs)) (zer n) n (xs.length + 1) = (xs, txt n (pP xs), txt n (pQ xs 0)) := by
   unfold one; rw [if_neg (by omega), if_neg (by omega), blank_off xs n (xs.length + 1) (by omega)]
  rw [e2] at o2
  exact Ev.bind o1 (Ev.bind o2 (Ev.now _))
 ·rw [if_neg c1, if_neg c1]
  by_cases c3 : b = xs.length + 1
  ·subst c3
   rw [blank_off (blank xs n a) n (xs.length + 1) (by omega), if_neg (show ¬ xs.length + 1 = xs.length by omega), if_neg (show ¬ xs.length + 1 = xs.length by omega), if_pos (show xs.length < xs.length + 1 by omega), if_pos rfl]
   refine evp (by omega) ?_
   have o1 := spec_one (xs := blank xs n a) (by omega) (by omega) h3 hba p (zer n) a hp (by omega) (by omega)
   have e1 : one (blank xs n a) p (zer n) n a = ((blank xs n a).set a (txt n fun j => pP (blank xs n a) j ^^^ bn p j), p, zer n) := by
    unfold one; rw [if_pos (by omega), blank_twice]
   rw [e1] at o1
   refine Ev.bind o1 ?_
   simp only []
   have hzs := set_all a (fun j => pP (blank xs n a) j ^^^ bn p j) hba
   generalize hZ : (blank xs n a).set a (txt n fun j => pP (blank xs n a) j ^^^ bn p j) = zs at hzs
   have hzl : zs.length = xs.length := by rw [← hZ, List.length_set]; exact hbl
   have o2 := spec_one (xs := zs) (by omega) (by omega) h3 hzs p (zer n) (xs.length + 1) hp (by omega) (by omega)
   have e2 : one zs p (zer n) n (xs.length + 1) = (zs, p, txt n (pQ zs 0)) := by
    unfold one; rw [if_neg (by omega), if_neg (by omega), blank_off zs n (xs.length + 1) (by omega)]
   rw [e2] at o2
   exact Ev.bind o2 (Ev.now _)
  ·by_cases c2 : b = xs.length
   ·subst c2
    rw [blank_off (blank xs n a) n xs.length (by omega), if_pos rfl, if_neg (show ¬ xs.length < xs.length by omega), if_pos rfl]
    refine evn (by omega) (evp rfl ?_)
    obtain ⟨he, hn⟩ := even_of (xs := blank xs n a) (by omega) (by omega) h3 hba
    refine Ev.bind (spec_par he hn) (Ev.bind (ev_pow2 a (by omega)) (Ev.bind (ev_sinv _ (ex_lt a)) (ev_to_some (spec_xort n _ q (pQ_lt _ 0) (by omega) (by omega)) ?_)))
    have hd := ev_times (GF.inv (ex a)) (inv_lt _) (txt n fun j => pQ (blank xs n a) 0 j ^^^ bn q j) (by rw [txt_size]; omega)
    rw [txt_size, txt_gr n _ _ (fun j => xor_lt _ _ (pQ_lt _ _ _) (bn_lt q j))] at hd
    refine Ev.bind hd (evp (by omega) (evp (by omega) ?_))
    rw [Int.toNat_natCast]
    have hzs := set_all a (fun j => gm (GF.inv (ex a)) (pQ (blank xs n a) 0 j ^^^ bn q j)) hba
    generalize hZ : (blank xs n a).set a (txt n fun j => gm (GF.inv (ex a)) (pQ (blank xs n a) 0 j ^^^ bn q j)) = zs at hzs
    have hzl : zs.length = xs.length := by rw [← hZ, List.length_set]; exact hbl
    have o2 := spec_one (xs := zs) (by omega) (by omega) h3 hzs (zer n) q xs.length hzn (by omega) (by omega)
    have e2 : one zs (zer n) q n xs.length = (zs, txt n (pP zs), q) := by
     unfold one; rw [if_neg (by omega), if_pos hzl.symm, blank_off zs n xs.length (by omega)]
    rw [e2] at o2
    exact Ev.bind o2 (Ev.now _)
   ·rw [if_neg c2, if_neg c2, if_neg c3, if_neg (show ¬ xs.length < b by omega)]
    refine evn (by omega) (evn (by omega) ?_)
    have hys := blank_all b hba
    have hyl : (blank (blank xs n a) n b).length = xs.length := by rw [blank_len, blank_len]
    generalize hY : blank (blank xs n a) n b = ys at hys hyl
    obtain ⟨he, hn⟩ := even_of (xs := ys) (by omega) (by omega) h3 hys
    refine Ev.bind (spec_par he hn) (ev_to_some (spec_xort n _ p (pP_lt _) (by omega) (by omega)) (ev_to_some (spec_xort n _ q (pQ_lt _ 0) (by omega) (by omega)) ?_))
    exact spec_two_end h1 h2 h3 h4 p q a b hab (by omega) ys hyl (fun j => pP ys j ^^^ bn p j) (fun j => pQ ys 0 j ^^^ bn q j) (fun j => xor_lt _ _ (pP_lt _ j) (bn_lt p j)) (fun j => xor_lt _ _ (pQ_lt _ 0 j) (bn_lt q j))
end
set_option linter.unusedSectionVars false
theorem tl_iff (s t : ByteArray) : s.toList = t.toList ↔ s = t := by
 rw [ByteArray.toList_eq, ByteArray.toList_eq]
 exact ⟨fun h => ByteArray.ext (Array.toList_inj.mp h), fun h => by rw [h]⟩
theorem bn_ext {s t : ByteArray} (h : s.size = t.size) (hj : ∀ j, j < s.size → bn s j = bn t j) : s = t := by
 refine ByteArray.ext (Array.ext h (fun j h1 h2 => ?_))
 have h1' : j < s.size := h1
 have h2' : j < t.size := h2
 have := hj j h1'
 unfold bn bt at this; rw [Int.toNat_natCast] at this; rw [dif_pos h1', dif_pos h2'] at this
 have h3 : s[j].toNat = t[j].toNat := by simpa using this
 exact UInt8.toNat_inj.mp h3
theorem xor3 (a b c : Nat) : c ^^^ b = (a ^^^ b) ^^^ (a ^^^ c) := by
 apply Nat.eq_of_testBit_eq
 intro i; simp only [Nat.testBit_xor]
 cases a.testBit i <;> cases b.testBit i <;> cases c.testBit i <;> rfl
theorem pP_set (j : Nat) (d : ByteArray) : ∀ (xs : List ByteArray) (l : Nat), l < xs.length → pP (xs.set l d) j = pP xs j ^^^ (bn (xs.getD l ByteArray.empty) j ^^^ bn d j)
 | [], l, h => by simp at h
 | s :: xs, 0, _ => by
  show bn d j ^^^ pP xs j = (bn s j ^^^ pP xs j) ^^^ (bn s j ^^^ bn d j)
  exact xor3 _ _ _
 | s :: xs, l + 1, h => by
  have ih := pP_set j d xs l (by simpa using h)
  show bn s j ^^^ pP (xs.set l d) j = (bn s j ^^^ pP xs j) ^^^ (bn (xs.getD l ByteArray.empty) j ^^^ bn d j)
  rw [ih, Nat.xor_assoc]
theorem pQ_set (j : Nat) (d : ByteArray) : ∀ (xs : List ByteArray) (l i : Nat), l < xs.length → pQ (xs.set l d) i j = pQ xs i j ^^^ gm (ex (i + l)) (bn (xs.getD l ByteArray.empty) j ^^^ bn d j)
 | [], l, i, h => by simp at h
 | s :: xs, 0, i, _ => by
  show gm (ex i) (bn d j) ^^^ pQ xs (i + 1) j = (gm (ex i) (bn s j) ^^^ pQ xs (i + 1) j) ^^^ gm (ex i) (bn s j ^^^ bn d j)
  rw [gm_right]
  exact xor3 _ _ _
 | s :: xs, l + 1, i, h => by
  have ih := pQ_set j d xs l (i + 1) (by simpa using h)
  show gm (ex i) (bn s j) ^^^ pQ (xs.set l d) (i + 1) j = (gm (ex i) (bn s j) ^^^ pQ xs (i + 1) j) ^^^ gm (ex (i + (l + 1))) (bn (xs.getD l ByteArray.empty) j ^^^ bn d j)
  rw [ih, Nat.xor_assoc, show i + 1 + l = i + (l + 1) by omega]
theorem even_sizes {xs : List ByteArray} {n : Nat} (he : even xs = true) (hn : (xs.getD 0 ByteArray.empty).size = n) : 1 ≤ xs.length ∧ xs.length ≤ 16 ∧ n ≤ 40 ∧ ∀ x ∈ xs, x.size = n := even_all he hn.symm
theorem good_mk {xs : List ByteArray} {p q : ByteArray} {n : Nat} (he : even xs = true) (hn : (xs.getD 0 ByteArray.empty).size = n) (hp : p.size = n) (hq : q.size = n) : goodS xs p q = true := by
 unfold goodS; rw [he, hn, decide_eq_true hp, decide_eq_true hq]
 rfl
theorem same_texts_l (xs : List ByteArray) (hl : xs.length < 2 ^ 40) (d : Nat) : ∀ i : Nat, i + d = xs.length → Ev (fun k => laws_sameTexts.l0 k xs xs (xs.length : Int) (i : Int)) true := by
 induction d with
 | zero => intro i hi; exact Ev.step (fun k => by simp only [laws_sameTexts.l0]; rw [if_neg (by omega)]) (Ev.now _)
 | succ d ih =>
  intro i hi
  exact Ev.step (fun k => by simp only [laws_sameTexts.l0, if_true]; rw [if_pos (by omega), if_pos (by omega), if_pos (by omega), if_pos (by omega), inc i (by omega)]) (ih (i + 1) (by omega))
theorem same_stripes (xs : List ByteArray) (p q : ByteArray) (hl : xs.length < 2 ^ 40) : Ev (fun k => laws_sameStripes.f k xs p q xs p q) true := by
 unfold laws_sameStripes.f laws_sameTexts.f
 exact evp rfl (evp rfl (Ev.bind (evp rfl (same_texts_l xs hl xs.length 0 (by omega))) (Ev.now _)))
theorem check_i (xs : List ByteArray) (p q : ByteArray) : Ev (fun k => impl_CheckStripe.f k xs p q) (if goodS xs p q = true then (right xs p q, true) else (false, false)) := by
 unfold impl_CheckStripe.f
 refine ev_to_some (impl_good xs p q) ?_
 cases hg : goodS xs p q with
 | false => exact evn (by decide) (Ev.now _)
 | true => exact evp rfl (Ev.bind (impl_right p q (good_even hg)) (Ev.now _))
theorem make_i {xs : List ByteArray} {n : Nat} (he : even xs = true) (hn : (xs.getD 0 ByteArray.empty).size = n) : Ev (fun k => impl_MakeStripe.f k xs) (xs, txt n (pP xs), txt n (pQ xs 0), true) := by
 unfold impl_MakeStripe.f
 refine ev_to_some (areEqual xs) ?_
 rw [he]
 have h := (even_sizes he hn).2.1
 exact evp rfl (Ev.bind (impl_par he hn.symm) (ev_to_some (clone xs (by omega)) (Ev.now _)))
theorem make_s (xs : List ByteArray) (hx : xs.length < 2 ^ 40) : Ev (fun k => spec_MakeStripe.f k xs) (if even xs = true then (xs, txt (xs.getD 0 ByteArray.empty).size (pP xs), txt (xs.getD 0 ByteArray.empty).size (pQ xs 0), true) else ([], (⟨#[]⟩ : ByteArray), (⟨#[]⟩ : ByteArray), false)) := by
 unfold spec_MakeStripe.f
 refine Ev.bind (l3data xs hx) ?_
 cases he : even xs with
 | false => exact evn (by decide) (Ev.now _)
 | true =>
  refine evp rfl (Ev.bind (spec_par he rfl) (ev_some (evp (by simp only [List.length_nil]; omega) ?_)))
  exact Ev.now _
set_option linter.unusedSectionVars false
theorem one_even {xs : List ByteArray} {n : Nat} (h1 : 1 ≤ xs.length) (h2 : xs.length ≤ 16) (h3 : n ≤ 40) (h4 : ∀ x ∈ xs, x.size = n) (p q : ByteArray) (l : Nat) : even (one xs p q n l).1 = true := by
 have hb := blank_all l h4
 unfold one
 by_cases c1 : l < xs.length
 ·rw [if_pos c1]
  refine (even_of (n := n) (by simp only [List.length_set, blank_len]; exact h1) (by simp only [List.length_set, blank_len]; exact h2) h3 (fun x hx => ?_)).1
  rcases List.mem_or_eq_of_mem_set hx with h | h
  ·exact hb x h
  ·rw [h]; exact txt_size _ _
 ·rw [if_neg c1]
  have h : even (blank xs n l) = true := (even_of (by rw [blank_len]; exact h1) (by rw [blank_len]; exact h2) h3 hb).1
  split <;> exact h
def sgo (W : Nat → Bool) : Nat → Nat → Option Nat → Int × Bool
 | 0, _, none => (0, false)
 | 0, _, some m => ((m : Int), true)
 | d + 1, i, none => if W i = true then sgo W d (i + 1) (some i) else sgo W d (i + 1) none
 | d + 1, i, some m => if W i = true then (0, false) else sgo W d (i + 1) (some m)
def accL : Option Nat → List Int
 | none => []
 | some m => [(m : Int)]
section
variable {xs : List ByteArray} {n : Nat} (h1 : 1 ≤ xs.length) (h2 : xs.length ≤ 16) (h3 : n ≤ 40) (h4 : ∀ x ∈ xs, x.size = n)
include h1 h2 h3 h4
theorem impl_many (p q : ByteArray) (hp : p.size = n) (d : Nat) : ∀ (i : Nat) (L : List Int), i + d = xs.length + 2 → 2 ≤ L.length → L.length + d ≤ 1000 →
  Ev (fun k => impl_FindWrong.l0 k L ((xs.length : Int) + 2) (i : Int) xs p q) (0, false) := by
 induction d with
 | zero =>
  intro i L hi hL _
  exact Ev.step (fun k => by simp only [impl_FindWrong.l0]; rw [if_neg (by omega), if_neg (by omega)]) (Ev.now _)
 | succ d ih =>
  intro i L hi hL hb
  refine Ev.step (fun k => by simp only [impl_FindWrong.l0]; rw [if_pos (by omega), inc i (by omega)]) ?_
  refine Ev.bind (impl_one h1 h2 h3 h4 p q i hp (by omega)) (Ev.bind (impl_right _ _ (one_even h1 h2 h3 h4 p q i)) ?_)
  cases hW : right (one xs p q n i).1 (one xs p q n i).2.1 (one xs p q n i).2.2 with
  | false => exact evn (by decide) (ih (i + 1) L (by omega) hL (by omega))
  | true => exact evp rfl (evp (by omega) (ih (i + 1) _ (by omega) (by rw [List.length_append]; omega) (by rw [List.length_append]; simp only [List.length_cons, List.length_nil]; omega)))
theorem impl_find (p q : ByteArray) (hp : p.size = n) (d : Nat) : ∀ (i : Nat) (a : Option Nat), i + d = xs.length + 2 →
  Ev (fun k => impl_FindWrong.l0 k (accL a) ((xs.length : Int) + 2) (i : Int) xs p q) (sgo (fun l => right (one xs p q n l).1 (one xs p q n l).2.1 (one xs p q n l).2.2) d i a) := by
 induction d with
 | zero =>
  intro i a hi
  refine Ev.step (fun k => by simp only [impl_FindWrong.l0]; rw [if_neg (by omega)]) ?_
  cases a with
  | none => exact evn (by decide) (Ev.now _)
  | some m => exact evp rfl (evp (by show (0 : Int) < ((1 : Nat) : Int); omega) (Ev.now _))
 | succ d ih =>
  intro i a hi
  refine Ev.step (fun k => by simp only [impl_FindWrong.l0]; rw [if_pos (by omega), inc i (by omega)]) ?_
  refine Ev.bind (impl_one h1 h2 h3 h4 p q i hp (by omega)) (Ev.bind (impl_right _ _ (one_even h1 h2 h3 h4 p q i)) ?_)
  cases hW : right (one xs p q n i).1 (one xs p q n i).2.1 (one xs p q n i).2.2 with
  | false =>
   refine evn (by decide) ?_
   have := ih (i + 1) a (by omega)
   cases a <;> (simp only [sgo, hW]; rw [if_neg (by decide)]; exact this)
  | true =>
   refine evp rfl ?_
   cases a with
   | none =>
    have := ih (i + 1) (some i) (by omega)
    simp only [sgo, hW]; rw [if_pos True.intro]
    exact evp (by decide) this
   | some m =>
    simp only [sgo, hW]; rw [if_pos True.intro]
    exact evp (by show 1 < 17592186044416; omega) (impl_many h1 h2 h3 h4 p q hp d (i + 1) _ (by omega) (by simp [accL]) (by simp only [accL, List.length_append, List.length_cons, List.length_nil]; omega))
end
theorem rec_one_i {xs : List ByteArray} {p q : ByteArray} {n : Nat} (hg : goodS xs p q = true) (hn : (xs.getD 0 ByteArray.empty).size = n) (l : Nat) (hl : l ≤ xs.length + 1) : Ev (fun k => impl_RecoverOne.f k xs p q (l : Int)) ((one xs p q n l).1, (one xs p q n l).2.1, (one xs p q n l).2.2, true) := by
 obtain ⟨hp, hq, b1, b2, b3, b4⟩ := good_all hg hn.symm
 unfold impl_RecoverOne.f
 refine ev_to_some (isDisk xs p q _ (by omega)) ?_
 rw [hg, decide_eq_true (show (l : Int) ≥ 0 ∧ (l : Int) ≤ (xs.length : Int) + 1 by omega)]
 exact evp rfl (Ev.bind (impl_one b1 b2 b3 b4 p q l hp (by omega)) (Ev.now _))
theorem both_RecoverTwo (xs : List ByteArray) (p q : ByteArray) (a b : Int) (hx : xs.length < 2 ^ 40) : ∃ (rx : List ByteArray) (rp rq : ByteArray) (ok : Bool), rx.length < 2 ^ 40 ∧ Ev (fun k => spec_RecoverTwo.f k xs p q a b) (rx, rp, rq, ok) ∧ Ev (fun k => impl_RecoverTwo.f k xs p q a b) (rx, rp, rq, ok) := by
 have w1 : wrap64 ((xs.length : Int) + 1) = (xs.length : Int) + 1 := by unfold wrap64; omega
 have nos : ∀ u v : Int, Ev (fun k => spec_RecoverTwo.j0 k u v true xs p q) ([], (⟨#[]⟩ : ByteArray), (⟨#[]⟩ : ByteArray), false) := fun u v => Ev.step (fun k => by simp only [spec_RecoverTwo.j0]; rw [if_pos True.intro]) (Ev.now _)
 have noi : ∀ u v : Int, Ev (fun k => impl_RecoverTwo.j0 k u v true xs p q) ([], (⟨#[]⟩ : ByteArray), (⟨#[]⟩ : ByteArray), false) := fun u v => Ev.step (fun k => by simp only [impl_RecoverTwo.j0]; rw [if_pos True.intro]) (Ev.now _)
 have no : (goodS xs p q = true → ¬ ((a ≥ 0 ∧ a ≤ (xs.length : Int) + 1) ∧ (b ≥ 0 ∧ b ≤ (xs.length : Int) + 1) ∧ a ≠ b)) → Ev (fun k => spec_RecoverTwo.f k xs p q a b) ([], (⟨#[]⟩ : ByteArray), (⟨#[]⟩ : ByteArray), false) ∧ Ev (fun k => impl_RecoverTwo.f k xs p q a b) ([], (⟨#[]⟩ : ByteArray), (⟨#[]⟩ : ByteArray), false) := by
  intro h
  constructor
  ·unfold spec_RecoverTwo.f
   refine Ev.bind (spec_good xs p q hx) ?_
   cases hg : goodS xs p q with
   | false => exact evn (by simp) (nos a b)
   | true =>
    refine evp rfl (ev_to_some (l1In_tells _ _ _) ?_)
    rw [w1]
    by_cases ha : a ≥ 0 ∧ a ≤ (xs.length : Int) + 1
    ·rw [decide_eq_true ha]
     refine evp rfl (ev_to_some (l1In_tells _ _ _) ?_)
     by_cases hb : b ≥ 0 ∧ b ≤ (xs.length : Int) + 1
     ·rw [decide_eq_true hb]
      have e : a = b := by
       by_cases e : a = b
       ·exact e
       ·exact absurd ⟨ha, hb, e⟩ (h hg)
      rw [show (a == b) = true from beq_iff_eq.mpr e]
      exact evp rfl (nos a b)
     ·rw [decide_eq_false hb]; exact evn (by simp) (nos a b)
    ·rw [decide_eq_false ha]; exact evn (by simp) (nos a b)
  ·unfold impl_RecoverTwo.f
   refine ev_to_some (isDisk xs p q a hx) ?_
   cases hg : goodS xs p q with
   | false => exact evn (by simp) (noi a b)
   | true =>
    by_cases ha : a ≥ 0 ∧ a ≤ (xs.length : Int) + 1
    ·rw [decide_eq_true ha]
     refine evp rfl (ev_to_some (isDisk xs p q b hx) ?_)
     rw [hg]
     by_cases hb : b ≥ 0 ∧ b ≤ (xs.length : Int) + 1
     ·rw [decide_eq_true hb]
      have e : a = b := by
       by_cases e : a = b
       ·exact e
       ·exact absurd ⟨ha, hb, e⟩ (h hg)
      rw [show (a == b) = true from beq_iff_eq.mpr e]
      exact evp rfl (noi a b)
     ·rw [decide_eq_false hb]; exact evn (by simp) (noi a b)
    ·rw [decide_eq_false ha]; exact evn (by simp) (noi a b)
 by_cases hg : goodS xs p q = true
 ·by_cases hc : (a ≥ 0 ∧ a ≤ (xs.length : Int) + 1) ∧ (b ≥ 0 ∧ b ≤ (xs.length : Int) + 1) ∧ a ≠ b
  ·obtain ⟨u, rfl⟩ : ∃ u : Nat, a = (u : Int) := ⟨a.toNat, by omega⟩
   obtain ⟨v, rfl⟩ : ∃ v : Nat, b = (v : Int) := ⟨b.toNat, by omega⟩
   obtain ⟨hp, hq, b1, b2, b3, b4⟩ := good_all hg rfl
   generalize hn : (xs.getD 0 ByteArray.empty).size = n at hp hq b3 b4
   have hne : ((u : Int) == (v : Int)) = false := beq_eq_false_iff_ne.mpr hc.2.2
   have go : ∀ r : List ByteArray × ByteArray × ByteArray, r.1.length = xs.length → Ev (fun k => spec_RecoverTwo.j0 k (u : Int) (v : Int) false xs p q) (r.1, r.2.1, r.2.2, true) → Ev (fun k => impl_RecoverTwo.j0 k (u : Int) (v : Int) false xs p q) (r.1, r.2.1, r.2.2, true) →
     ∃ (rx : List ByteArray) (rp rq : ByteArray) (ok : Bool), rx.length < 2 ^ 40 ∧ Ev (fun k => spec_RecoverTwo.f k xs p q (u : Int) (v : Int)) (rx, rp, rq, ok) ∧ Ev (fun k => impl_RecoverTwo.f k xs p q (u : Int) (v : Int)) (rx, rp, rq, ok) := by
    intro r hr s1 s2
    refine ⟨r.1, r.2.1, r.2.2, true, by omega, ?_, ?_⟩
    ·unfold spec_RecoverTwo.f
     refine Ev.bind (spec_good xs p q hx) ?_
     rw [hg]
     refine evp rfl (ev_to_some (l1In_tells _ _ _) ?_)
     rw [w1, decide_eq_true hc.1]
     refine evp rfl (ev_to_some (l1In_tells _ _ _) ?_)
     rw [decide_eq_true hc.2.1, hne]
     exact evp rfl s1
    ·unfold impl_RecoverTwo.f
     refine ev_to_some (isDisk xs p q _ hx) ?_
     rw [hg, decide_eq_true hc.1]
     refine evp rfl (ev_to_some (isDisk xs p q _ hx) ?_)
     rw [hg, decide_eq_true hc.2.1, hne]
     exact evp rfl s2
   by_cases hlt : u < v
   ·refine go (two xs p q n u v) (two_len _ _ _ _ _ _) ?_ (impl_two b1 b2 b3 b4 p q u v hp hq hlt (by omega)).1
    exact Ev.step (fun k => by simp only [spec_RecoverTwo.j0]; rw [if_neg (by decide), if_neg (by omega)]) (Ev.bind (spec_two b1 b2 b3 b4 p q u v hp hq hlt (by omega)) (Ev.now _))
   ·have hlt : v < u := by omega
    refine go (two xs p q n v u) (two_len _ _ _ _ _ _) ?_ (impl_two b1 b2 b3 b4 p q v u hp hq hlt (by omega)).2
    exact Ev.step (fun k => by simp only [spec_RecoverTwo.j0]; rw [if_neg (by decide), if_pos (by omega)]) (Ev.bind (spec_two b1 b2 b3 b4 p q v u hp hq hlt (by omega)) (Ev.now _))
  ·obtain ⟨n1, n2⟩ := no (fun _ => hc)
   exact ⟨[], _, _, false, by simp, n1, n2⟩
 ·obtain ⟨n1, n2⟩ := no (fun h => absurd h hg)
  exact ⟨[], _, _, false, by simp, n1, n2⟩
theorem cur_wraps (n : Int) (h₀ : 0 ≤ n) (h₁ : n < 2 ^ 64) : IntKind.u64.wrap n = n := by rw [IntKind.wrap_u64]; omega
theorem cur_and (y : Int) (h0 : 0 ≤ y) (h1 : y < 2 ^ 64) : Go.bits .and .u64 y 255 = y % 256 := bits_mask .u64 64 (by decide) cur_wraps 8 (by decide) y h0 h1
theorem cur_byte (u : Int) : ∃ b : Int, wrap64 (Go.bits .and .u64 ((IntKind.u64.wrap u) / 1099511627776) 255) = b ∧ 0 ≤ b ∧ b ≤ 255 := by
 refine ⟨_, rfl, ?_⟩
 have h := IntKind.wrap_u64 u
 generalize IntKind.u64.wrap u = v at h
 have hv : 0 ≤ v ∧ v < 2 ^ 64 := by omega
 clear h
 obtain ⟨y, hy⟩ : ∃ y, y = v / 1099511627776 := ⟨_, rfl⟩
 rw [← hy, cur_and y (by omega) (by omega)]
 clear hv
 unfold wrap64
 omega
theorem cur_rd (xs : List Int) (hb : ∀ x ∈ xs, (Lit.int .u8 x).wf = true) (i : Int) (h0 : 0 ≤ i) (h1 : i < (xs.length : Int)) : 0 ≤ rd xs i ∧ rd xs i ≤ 255 := by
 have hm : rd xs i ∈ xs := by
  unfold rd; rw [List.getD_eq_getElem?_getD, List.getElem?_eq_getElem (show i.toNat < xs.length by omega)]
  simp
 have := bounds_u8 (hb _ hm)
 omega
section
variable (xs : List Int) (hb : ∀ x ∈ xs, (Lit.int .u8 x).wf = true)
include hb
theorem cur_next (a s n : Int) (h0 : 0 ≤ a) (h1 : a ≤ n) (hn : n < 2 ^ 60) : ∃ b a' s', spec_l1Cur_next.f xs a s = some (b, a', s') ∧ 0 ≤ b ∧ b ≤ 255 ∧ 0 ≤ a' ∧ a' ≤ n + 1 := by
 have hw : wrap64 (a + 1) = a + 1 := by unfold wrap64; omega
 unfold spec_l1Cur_next.f; rw [hw]
 by_cases c1 : a < (xs.length : Int)
 ·have hr := cur_rd xs hb a h0 c1
  rw [if_pos c1, if_pos h0]
  have hr2 : wrap64 (rd xs a) = rd xs a := by unfold wrap64; omega
  rw [hr2]
  by_cases c2 : a + 1 ≤ (xs.length : Int)
  ·rw [if_pos c2]; exact ⟨_, _, _, rfl, hr.1, hr.2, by omega, by omega⟩
  ·omega
 ·rw [if_neg c1, if_neg (by omega)]
  obtain ⟨b, hb1, hb2, hb3⟩ := cur_byte ((IntKind.u64.wrap ((IntKind.u64.wrap (s * 6364136223846793005)) + 0)) + 1442695040888963407)
  rw [hb1]
  exact ⟨_, _, _, rfl, hb2, hb3, by omega, by omega⟩
theorem cur_pick (a s n m : Int) (h0 : 0 ≤ a) (h1 : a ≤ n) (hn : n < 2 ^ 59) (hm : m < 2 ^ 40) : ∃ b a' s', spec_l1Cur_pick.f xs a s m = some (b, a', s') ∧ 0 ≤ b ∧ (b < m ∨ b = 0) ∧ 0 ≤ a' ∧ a' ≤ n + 2 := by
 unfold spec_l1Cur_pick.f
 by_cases c1 : m ≤ 1
 ·rw [if_pos c1]; exact ⟨0, a, s, rfl, by omega, .inr rfl, h0, by omega⟩
 ·obtain ⟨b, a1, s1, e1, b0, b1, p0, p1⟩ := cur_next xs hb a s n h0 h1 (by omega)
  rw [if_neg c1, e1]; simp only [Option.bind_some]
  by_cases c2 : m > 200
  ·obtain ⟨b2, a2, s2, e2, q0, q1, r0, r1⟩ := cur_next xs hb a1 s1 (n + 1) p0 p1 (by omega)
   rw [if_pos c2, e2]; simp only [Option.bind_some]; rw [if_neg (by omega)]
   have hw : wrap64 ((wrap64 (b * 256)) + b2) = b * 256 + b2 := by unfold wrap64; omega
   rw [hw, Int.tmod_eq_emod_of_nonneg (by omega)]
   have h1 := Int.emod_nonneg (b * 256 + b2) (show m ≠ 0 by omega)
   have h2 := Int.emod_lt_of_pos (b * 256 + b2) (show 0 < m by omega)
   exact ⟨_, _, _, rfl, h1, .inl h2, r0, by omega⟩
  ·rw [if_neg c2, if_neg (by omega), Int.tmod_eq_emod_of_nonneg (by omega)]
   have h1 := Int.emod_nonneg b (show m ≠ 0 by omega)
   have h2 := Int.emod_lt_of_pos b (show 0 < m by omega)
   exact ⟨_, _, _, rfl, h1, .inl h2, p0, by omega⟩
end
section
variable (xs : List Int) (hb : ∀ x ∈ xs, (Lit.int .u8 x).wf = true)
include hb
theorem cur_among (a s n : Int) (L : List Int) (hL : 0 < L.length) (hL2 : L.length < 2 ^ 39) (h0 : 0 ≤ a) (h1 : a ≤ n) (hn : n < 2 ^ 59) : ∃ b a' s', spec_l1Cur_among.f xs a s L = some (b, a', s') ∧ b ∈ L ∧ 0 ≤ a' ∧ a' ≤ n + 2 := by
 obtain ⟨i, a1, s1, e1, i0, i1, p0, p1⟩ := cur_pick xs hb a s n (L.length : Int) h0 h1 hn (by omega)
 unfold spec_l1Cur_among.f; rw [e1]; simp only [Option.bind_some]; rw [if_pos i0, if_pos (by omega)]
 refine ⟨_, _, _, rfl, ?_, p0, p1⟩
 unfold rd; rw [List.getD_eq_getElem?_getD, List.getElem?_eq_getElem (show i.toNat < L.length by omega)]
 simp
end
section
variable (xs : List Int) (hb : ∀ x ∈ xs, (Lit.int .u8 x).wf = true)
include hb
theorem cur_one (a s n m : Int) (h0 : 0 ≤ a) (h1 : a ≤ n) (hn : n < 2 ^ 59) (hm : m < 2 ^ 40) : ∃ b a' s', spec_l1Cur_one.f xs a s m = some (b, a', s') ∧ 0 ≤ a' ∧ a' ≤ n + 2 := by
 obtain ⟨i, a1, s1, e1, i0, i1, p0, p1⟩ := cur_pick xs hb a s n m h0 h1 hn hm
 unfold spec_l1Cur_one.f; rw [e1]
 exact ⟨_, _, _, rfl, p0, p1⟩
end
section
variable (cs : List Int) (hb : ∀ x ∈ cs, (Lit.int .u8 x).wf = true)
include hb
theorem d_text_l (m : Nat) (hm : m < 2 ^ 40) (N : Int) (hN : N < 2 ^ 50) (d : Nat) : ∀ (i : Nat) (ys : List Int) (a s : Int), i + d = m → ys.length = m → 0 ≤ a → a ≤ N + 2 * (i : Int) →
  ∃ t a' s', Ev (fun k => spec_l1Cur_text.l0 k ys (m : Int) (i : Int) cs a s) (t, a', s') ∧ t.size = m ∧ 0 ≤ a' ∧ a' ≤ N + 2 * (m : Int) := by
 induction d with
 | zero =>
  intro i ys a s hi hy h0 h1
  exact ⟨strOfNums ys, a, s, Ev.step (fun k => by simp only [spec_l1Cur_text.l0]; rw [if_neg (by omega)]) (Ev.now _), by rw [strOfNums_size]; exact hy, h0, by omega⟩
 | succ d ih =>
  intro i ys a s hi hy h0 h1
  obtain ⟨b, a1, s1, e1, b0, b1, p0, p1⟩ := cur_pick cs hb a s (N + 2 * (i : Int)) 256 h0 h1 (by omega) (by omega)
  obtain ⟨t, a2, s2, h, ht, q0, q1⟩ := ih (i + 1) (ys.set i (b % 256)) a1 s1 (by omega) (by rw [List.length_set]; exact hy) p0 (by omega)
  refine ⟨t, a2, s2, Ev.step (fun k => ?_) h, ht, q0, q1⟩
  simp only [spec_l1Cur_text.l0]; rw [if_pos (by omega), e1]; simp only [Option.bind_some]; rw [if_pos (by omega), if_pos (by omega), Int.toNat_natCast, inc i (by omega)]
theorem d_text (m : Nat) (hm : m < 2 ^ 40) (N a s : Int) (hN : N < 2 ^ 50) (h0 : 0 ≤ a) (h1 : a ≤ N) : ∃ t a' s', Ev (fun k => spec_l1Cur_text.f k cs a s (m : Int)) (t, a', s') ∧ t.size = m ∧ 0 ≤ a' ∧ a' ≤ N + 2 * (m : Int) := by
 obtain ⟨t, a2, s2, h, ht, q0, q1⟩ := d_text_l cs hb m hm N hN m 0 (List.replicate m 0) a s (by omega) (by simp) h0 (by omega)
 refine ⟨t, a2, s2, ?_, ht, q0, q1⟩
 unfold spec_l1Cur_text.f
 refine evp (by omega) (evp (by omega) ?_)
 rw [Int.toNat_natCast]
 refine ev_some ?_
 rw [List.length_replicate]
 exact h
theorem d_data_l (m : Nat) (hm : m ≤ 41) (d : Nat) : ∀ (L : List ByteArray) (N a s : Int), d ≤ 20 → L.length + d ≤ 40 → N + 90 * (d : Int) < 2 ^ 49 → 0 ≤ a → a ≤ N → (∀ x ∈ L, x.size ≤ 41) →
  ∃ L' a' s', Ev (fun k => spec_l1Cur_data.l0 k (m : Int) L (d : Int) cs a s) (L', a', s') ∧ L'.length ≤ 40 ∧ 0 ≤ a' ∧ a' ≤ N + 90 * (d : Int) + 2 ∧ ∀ x ∈ L', x.size ≤ 42 := by
 induction d with
 | zero =>
  intro L N a s _ hL hN h0 h1 hs
  by_cases hl : (L.length : Int) > 0
  ·obtain ⟨o, a1, s1, e1, p0, p1⟩ := cur_one cs hb a s N 30 h0 h1 (by omega) (by omega)
   cases o with
   | false => exact ⟨L, a1, s1, Ev.step (fun k => by simp only [spec_l1Cur_data.l0]; rw [if_neg (by omega), if_pos hl, e1]; simp only [Option.bind_some]; rw [if_neg (by decide)]) (Ev.now _), by omega, p0, by omega, fun x hx => by have := hs x hx; omega⟩
   | true =>
    have hx0 : (rdOf ByteArray.empty L 0) ∈ L := gmem ByteArray.empty (show 0 < L.length by omega)
    have hz := hs _ hx0
    refine ⟨_, a1, s1, Ev.step (fun k => by simp only [spec_l1Cur_data.l0]; rw [if_neg (by omega), if_pos hl, e1]; simp only [Option.bind_some]; rw [if_pos True.intro, if_pos (by omega), if_pos (by omega)]) (Ev.now _), by rw [List.length_set]; omega, p0, by omega, fun x hx => ?_⟩
    rcases List.mem_or_eq_of_mem_set hx with h' | h'
    ·have := hs x h'; omega
    ·have h4 : (rdOf ByteArray.empty L 0 ++ (⟨#[120]⟩ : ByteArray)).size = (rdOf ByteArray.empty L 0).size + 1 := by rw [ByteArray.size_append]; rfl
     rw [h', h4]; omega
  ·exact ⟨L, a, s, Ev.step (fun k => by simp only [spec_l1Cur_data.l0]; rw [if_neg (by omega), if_neg hl]) (Ev.now _), by omega, h0, by omega, fun x hx => by have := hs x hx; omega⟩
 | succ d ih =>
  intro L N a s hd hL hN h0 h1 hs
  obtain ⟨t, a1, s1, e1, ht, p0, p1⟩ := d_text cs hb m (by omega) N a s (by omega) h0 h1
  obtain ⟨L', a2, s2, h, g1, g2, g3, g4⟩ := ih (L ++ [t]) (N + 90) a1 s1 (by omega) (by rw [List.length_append]; simp; omega) (by omega) p0 (by omega) (fun x hx => by
   rcases List.mem_append.mp hx with hx | hx
   ·exact hs x hx
   ·rw [List.mem_singleton.mp hx]; omega)
  refine ⟨L', a2, s2, Ev.step (fun k => by simp only [spec_l1Cur_data.l0]; rw [if_pos (by omega)]) (Ev.bind e1 (evp (show L.length < 8796093022208 by omega) ?_)), g1, g2, by omega, g4⟩
  rw [show wrap64 (((d + 1 : Nat) : Int) - 1) = (d : Int) by unfold wrap64; omega]
  exact h
theorem d_data_j (m : Nat) (hm : m ≤ 41) (N a s : Int) (hN : N < 2 ^ 40) (h0 : 0 ≤ a) (h1 : a ≤ N) : ∃ L a' s', Ev (fun k => spec_l1Cur_data.j0 k (m : Int) cs a s) (L, a', s') ∧ L.length ≤ 40 ∧ 0 ≤ a' ∧ a' ≤ N + 2000 ∧ ∀ x ∈ L, x.size ≤ 42 := by
 obtain ⟨b, a1, s1, e1, b0, b1, p0, p1⟩ := cur_pick cs hb a s N 5 h0 h1 (by omega) (by omega)
 obtain ⟨o, a2, s2, e2, q0, q1⟩ := cur_one cs hb a1 s1 (N + 2) 20 p0 p1 (by omega) (by omega)
 cases o with
 | false =>
  obtain ⟨B, hB⟩ := Int.eq_ofNat_of_zero_le b0
  obtain ⟨L, a3, s3, h, g1, g2, g3, g4⟩ := d_data_l cs hb m hm (1 + B) [] (N + 4) a2 s2 (by omega) (by simp; omega) (by omega) q0 (by omega) (fun x hx => by cases hx)
  refine ⟨L, a3, s3, Ev.step (fun k => by simp only [spec_l1Cur_data.j0]; rfl) (ev_to_some e1 (ev_to_some e2 (evn (show ¬ ((false, a2, s2).1 = true) by simp) ?_))), g1, g2, by omega, g4⟩
  show Ev (fun k => spec_l1Cur_data.j1 k (m : Int) ([] : List ByteArray) (wrap64 (1 + b)) cs a2 s2) _
  rw [show wrap64 (1 + b) = ((1 + B : Nat) : Int) by rw [hB]; unfold wrap64; omega]
  exact Ev.step (fun k => by simp only [spec_l1Cur_data.j1]) h
 | true =>
  obtain ⟨c, a3, s3, e3, hc, r0, r1⟩ := cur_among cs hb a2 s2 (N + 4) [0, 16, 17] (by decide) (by decide) q0 (by omega) (by omega)
  have hc' : c = 0 ∨ c = 16 ∨ c = 17 := by simpa using hc
  obtain ⟨B, hB⟩ := Int.eq_ofNat_of_zero_le (show 0 ≤ c by omega)
  obtain ⟨L, a4, s4, h, g1, g2, g3, g4⟩ := d_data_l cs hb m hm B [] (N + 6) a3 s3 (by omega) (by simp; omega) (by omega) r0 (by omega) (fun x hx => by cases hx)
  refine ⟨L, a4, s4, Ev.step (fun k => by simp only [spec_l1Cur_data.j0]; rfl) (ev_to_some e1 (ev_to_some e2 (evp (show (true, a2, s2).1 = true from rfl) (ev_to_some e3 ?_)))), g1, g2, by omega, g4⟩
  show Ev (fun k => spec_l1Cur_data.j1 k (m : Int) ([] : List ByteArray) c cs a3 s3) _
  rw [hB]
  exact Ev.step (fun k => by simp only [spec_l1Cur_data.j1]) h
theorem d_data (N a s : Int) (hN : N < 2 ^ 38) (h0 : 0 ≤ a) (h1 : a ≤ N) : ∃ L a' s', Ev (fun k => spec_l1Cur_data.f k cs a s) (L, a', s') ∧ L.length ≤ 40 ∧ 0 ≤ a' ∧ a' ≤ N + 3000 ∧ ∀ x ∈ L, x.size ≤ 42 := by
 obtain ⟨b, a1, s1, e1, b0, b1, p0, p1⟩ := cur_pick cs hb a s N 6 h0 h1 (by omega) (by omega)
 obtain ⟨o, a2, s2, e2, q0, q1⟩ := cur_one cs hb a1 s1 (N + 2) 20 p0 p1 (by omega) (by omega)
 unfold spec_l1Cur_data.f
 cases o with
 | false =>
  obtain ⟨B, hB⟩ := Int.eq_ofNat_of_zero_le b0
  obtain ⟨L, a3, s3, h, g1, g2, g3, g4⟩ := d_data_j cs hb B (by omega) (N + 4) a2 s2 (by omega) q0 (by omega)
  refine ⟨L, a3, s3, ev_to_some e1 (ev_to_some e2 (evn (by simp) ?_)), g1, g2, by omega, g4⟩
  show Ev (fun k => spec_l1Cur_data.j0 k b cs a2 s2) _
  rw [hB]; exact h
 | true =>
  obtain ⟨c, a3, s3, e3, c0, c1, r0, r1⟩ := cur_pick cs hb a2 s2 (N + 4) 2 q0 (by omega) (by omega) (by omega)
  obtain ⟨B, hB⟩ := Int.eq_ofNat_of_zero_le c0
  obtain ⟨L, a4, s4, h, g1, g2, g3, g4⟩ := d_data_j cs hb (40 + B) (by omega) (N + 6) a3 s3 (by omega) r0 (by omega)
  refine ⟨L, a4, s4, ev_to_some e1 (ev_to_some e2 (evp (by simp) (ev_to_some e3 ?_))), g1, g2, by omega, g4⟩
  show Ev (fun k => spec_l1Cur_data.j0 k (wrap64 (40 + c)) cs a3 s3) _
  rw [show wrap64 (40 + c) = ((40 + B : Nat) : Int) by rw [hB]; unfold wrap64; omega]; exact h
theorem d_stripe_j (x20 : Bool) (xs : List ByteArray) (p q : ByteArray) (hx : xs.length ≤ 40) (hp : p.size ≤ 42) (h20 : x20 = true → 0 < xs.length) (N a s : Int) (hN : N < 2 ^ 39) (h0 : 0 ≤ a) (h1 : a ≤ N) :
  ∃ xs' p' q' a' s', Ev (fun k => spec_l1Cur_stripe.j0 k x20 cs a s xs p q) (xs', p', q', a', s') ∧ xs'.length ≤ 40 ∧ p'.size ≤ 44 ∧ 0 ≤ a' ∧ a' ≤ N + 200 := by
 have h1s : ∀ t : ByteArray, t.size ≤ 43 → (t ++ (⟨#[120]⟩ : ByteArray)).size ≤ 44 := fun t ht => by rw [ByteArray.size_append]; show t.size + 1 ≤ 44; omega
 cases x20 with
 | false =>
  obtain ⟨o, a1, s1, e1, p0, p1⟩ := cur_one cs hb a s N 40 h0 h1 (by omega) (by omega)
  cases o with
  | false => exact ⟨xs, p, q, a1, s1, Ev.step (fun k => by simp only [spec_l1Cur_stripe.j0]; rw [if_neg (by decide), e1]; simp only [Option.bind_some]; rw [if_neg (by decide)]) (Ev.now _), hx, by omega, p0, by omega⟩
  | true => exact ⟨xs, _, q, a1, s1, Ev.step (fun k => by simp only [spec_l1Cur_stripe.j0]; rw [if_neg (by decide), e1]; simp only [Option.bind_some]; rw [if_pos True.intro, if_pos (by omega)]) (Ev.now _), hx, h1s p (by omega), p0, by omega⟩
 | true =>
  have hpos := h20 rfl
  have hw : wrap64 ((xs.length : Int) + 2) = (xs.length : Int) + 2 := by unfold wrap64; omega
  obtain ⟨b, a1, s1, e1, b0, b1, p0, p1⟩ := cur_pick cs hb a s N ((xs.length : Int) + 2) h0 h1 (by omega) (by omega)
  obtain ⟨t, a2, s2, e2, ht, q0, q1⟩ := d_text cs hb p.size (by omega) (N + 2) a1 s1 (by omega) p0 p1
  obtain ⟨o, a3, s3, e3, r0, r1⟩ := cur_one cs hb a2 s2 (N + 100) 40 q0 (by omega) (by omega) (by omega)
  by_cases c1 : b < (xs.length : Int)
  ·cases o with
   | false =>
    refine ⟨xs.set b.toNat t, p, q, a3, s3, Ev.step (fun k => by simp only [spec_l1Cur_stripe.j0]; rw [if_pos True.intro, hw, e1]; simp only [Option.bind_some]; rfl) (Ev.bind e2 (evp c1 (evp b0 ?_))), by rw [List.length_set]; exact hx, by omega, r0, by omega⟩
    exact ev_to_some e3 (evn (by simp) (Ev.now _))
   | true =>
    refine ⟨xs.set b.toNat t, _, q, a3, s3, Ev.step (fun k => by simp only [spec_l1Cur_stripe.j0]; rw [if_pos True.intro, hw, e1]; simp only [Option.bind_some]; rfl) (Ev.bind e2 (evp c1 (evp b0 ?_))), by rw [List.length_set]; exact hx, h1s p (by omega), r0, by omega⟩
    exact ev_to_some e3 (evp (by simp) (evp (by omega) (Ev.now _)))
  ·by_cases c2 : b = (xs.length : Int)
   ·cases o with
    | false =>
     refine ⟨xs, t, q, a3, s3, Ev.step (fun k => by simp only [spec_l1Cur_stripe.j0]; rw [if_pos True.intro, hw, e1]; simp only [Option.bind_some]; rfl) (Ev.bind e2 (evn c1 (evp c2 ?_))), hx, by omega, r0, by omega⟩
     exact ev_to_some e3 (evn (by simp) (Ev.now _))
    | true =>
     refine ⟨xs, _, q, a3, s3, Ev.step (fun k => by simp only [spec_l1Cur_stripe.j0]; rw [if_pos True.intro, hw, e1]; simp only [Option.bind_some]; rfl) (Ev.bind e2 (evn c1 (evp c2 ?_))), hx, h1s t (by omega), r0, by omega⟩
     exact ev_to_some e3 (evp (by simp) (evp (show t.size + 1 ≤ 9223372036854775807 by omega) (Ev.now _)))
   ·cases o with
    | false =>
     refine ⟨xs, p, t, a3, s3, Ev.step (fun k => by simp only [spec_l1Cur_stripe.j0]; rw [if_pos True.intro, hw, e1]; simp only [Option.bind_some]; rfl) (Ev.bind e2 (evn c1 (evn c2 ?_))), hx, by omega, r0, by omega⟩
     exact ev_to_some e3 (evn (by simp) (Ev.now _))
    | true =>
     refine ⟨xs, _, t, a3, s3, Ev.step (fun k => by simp only [spec_l1Cur_stripe.j0]; rw [if_pos True.intro, hw, e1]; simp only [Option.bind_some]; rfl) (Ev.bind e2 (evn c1 (evn c2 ?_))), hx, h1s p (by omega), r0, by omega⟩
     exact ev_to_some e3 (evp (by simp) (evp (by omega) (Ev.now _)))
theorem d_stripe : ∃ xs p q a' s', Ev (fun k => spec_l1Cur_stripe.f k cs 0 0) (xs, p, q, a', s') ∧ xs.length ≤ 40 ∧ p.size ≤ 44 ∧ 0 ≤ a' ∧ a' ≤ 5000 := by
 obtain ⟨L, a1, s1, e1, g1, g2, g3, g4⟩ := d_data cs hb 0 0 0 (by omega) (by omega) (by omega)
 have e2 := make_s L (by omega)
 obtain ⟨o, a2, s2, e3, q0, q1⟩ := cur_one cs hb a1 s1 3000 2 g2 (by omega) (by omega) (by omega)
 obtain ⟨xs, p, q, ok, hr, hxl, hps⟩ : ∃ xs p q ok, (if even L = true then (L, txt (L.getD 0 ByteArray.empty).size (pP L), txt (L.getD 0 ByteArray.empty).size (pQ L 0), true) else ([], (⟨#[]⟩ : ByteArray), (⟨#[]⟩ : ByteArray), false)) = (xs, p, q, ok) ∧ xs.length ≤ 40 ∧ p.size ≤ 42 := by
  by_cases he : even L = true
  ·rw [if_pos he]
   refine ⟨_, _, _, _, rfl, g1, ?_⟩
   rw [txt_size]
   have := (even_sizes he rfl).2.2.1
   omega
  ·rw [if_neg he]; exact ⟨_, _, _, _, rfl, by simp, by show 0 ≤ 42; omega⟩
 rw [hr] at e2; unfold spec_l1Cur_stripe.f
 cases o with
 | false =>
  obtain ⟨xs', p', q', a3, s3, e4, k1, k2, k3, k4⟩ := d_stripe_j cs hb false xs p q hxl hps (fun h => by cases h) 3002 a2 s2 (by omega) q0 (by omega)
  exact ⟨xs', p', q', a3, s3, Ev.bind e1 (Ev.bind e2 (ev_to_some e3 (evn (by simp) e4))), k1, k2, k3, by omega⟩
 | true =>
  obtain ⟨xs', p', q', a3, s3, e4, k1, k2, k3, k4⟩ := d_stripe_j cs hb (decide ((xs.length : Int) > 0)) xs p q hxl hps (fun h => by have := of_decide_eq_true h; omega) 3002 a2 s2 (by omega) q0 (by omega)
  exact ⟨xs', p', q', a3, s3, Ev.bind e1 (Ev.bind e2 (ev_to_some e3 (evp (by simp) e4))), k1, k2, k3, by omega⟩
end
abbrev T3 := List ByteArray × ByteArray × ByteArray
def pt (T : T3) (l : Nat) (t : ByteArray) : T3 := if l < T.1.length then (T.1.set l t, T.2.1, T.2.2) else if l = T.1.length then (T.1, t, T.2.2) else (T.1, T.2.1, t)
def dk (T : T3) (l : Nat) : ByteArray := if l < T.1.length then T.1.getD l ByteArray.empty else if l = T.1.length then T.2.1 else T.2.2
structure Wf (T : T3) (N n : Nat) : Prop where
 len : T.1.length = N
 all : ∀ x ∈ T.1, x.size = n
 p : T.2.1.size = n
 q : T.2.2.size = n
theorem pt_len (T : T3) (l : Nat) (t : ByteArray) : (pt T l t).1.length = T.1.length := by
 unfold pt; split
 ·exact List.length_set
 ·split <;> rfl
theorem pt_wf {T : T3} {N n l : Nat} {t : ByteArray} (h : Wf T N n) (ht : t.size = n) : Wf (pt T l t) N n := by
 refine ⟨by rw [pt_len]; exact h.len, ?_, ?_, ?_⟩
 ·intro x hx
  unfold pt at hx
  split at hx
  ·rcases List.mem_or_eq_of_mem_set hx with h' | h'
   ·exact h.all x h'
   ·rw [h']; exact ht
  ·split at hx <;> exact h.all x hx
 ·unfold pt; split
  ·exact h.p
  ·split
   ·exact ht
   ·exact h.p
 ·unfold pt; split
  ·exact h.q
  ·split
   ·exact h.q
   ·exact ht
theorem blank_same (xs : List ByteArray) (n l : Nat) (t : ByteArray) : blank (xs.set l t) n l = blank xs n l := by
 unfold blank; rw [List.length_set]
 by_cases h : l < xs.length
 ·rw [if_pos h, if_pos h, List.set_set]
 ·rw [if_neg h, if_neg h, List.set_eq_of_length_le (by omega)]
theorem blank_ne (xs : List ByteArray) (n a b : Nat) (t : ByteArray) (hab : a ≠ b) : blank (xs.set b t) n a = (blank xs n a).set b t := by
 unfold blank; rw [List.length_set]
 by_cases h : a < xs.length
 ·rw [if_pos h, if_pos h, List.set_comm _ _ (Ne.symm hab)]
 ·rw [if_neg h, if_neg h]
theorem one_pt (T : T3) (n l : Nat) (t : ByteArray) : one (pt T l t).1 (pt T l t).2.1 (pt T l t).2.2 n l = one T.1 T.2.1 T.2.2 n l := by
 unfold pt
 by_cases c1 : l < T.1.length
 ·rw [if_pos c1]
  unfold one; simp only [List.length_set, blank_same]
 ·rw [if_neg c1]
  by_cases c2 : l = T.1.length
  ·rw [if_pos c2]
   unfold one; rw [if_neg c1, if_neg c1, if_pos c2, if_pos c2]
  ·rw [if_neg c2]
   unfold one; rw [if_neg c1, if_neg c1, if_neg c2, if_neg c2]
theorem two_pt_a (T : T3) (n a b : Nat) (t : ByteArray) (hab : a < b) (hb : b ≤ T.1.length + 1) : two (pt T a t).1 (pt T a t).2.1 (pt T a t).2.2 n a b = two T.1 T.2.1 T.2.2 n a b := by
 unfold pt
 by_cases c1 : a < T.1.length
 ·rw [if_pos c1]
  unfold two; simp only [List.length_set, blank_same]
 ·rw [if_neg c1, if_pos (show a = T.1.length by omega)]
  unfold two; simp only []; rw [if_pos (show a = T.1.length by omega), if_pos (show a = T.1.length by omega)]
theorem two_pt_b (T : T3) (n a b : Nat) (t : ByteArray) (hab : a < b) (hb : b ≤ T.1.length + 1) : two (pt T b t).1 (pt T b t).2.1 (pt T b t).2.2 n a b = two T.1 T.2.1 T.2.2 n a b := by
 unfold pt
 by_cases c1 : b < T.1.length
 ·rw [if_pos c1]
  unfold two; simp only [List.length_set, blank_ne T.1 n a b t (by omega), blank_same]
 ·rw [if_neg c1]
  by_cases c2 : b = T.1.length
  ·rw [if_pos c2]
   unfold two; simp only []; rw [if_neg (show ¬ a = T.1.length by omega), if_neg (show ¬ a = T.1.length by omega), if_pos c2, if_pos c2]
  ·rw [if_neg c2]
   unfold two; simp only []
   by_cases c3 : a = T.1.length
   ·rw [if_pos c3, if_pos c3]
   ·rw [if_neg c3, if_neg c3, if_neg c2, if_neg c2, if_pos (show b = T.1.length + 1 by omega), if_pos (show b = T.1.length + 1 by omega)]
theorem bn_zer (n j : Nat) (hj : j < n) : bn (zer n) j = 0 := bn_txt n (fun _ => 0) j hj (by omega)
theorem set_self (xs : List ByteArray) (l : Nat) (h : l < xs.length) : xs.set l (xs.getD l ByteArray.empty) = xs := by
 rw [List.getD_eq_getElem?_getD, List.getElem?_eq_getElem h, Option.getD_some]
 exact List.set_getElem_self h
theorem xm3 (a b c : Nat) : a ^^^ b ^^^ c ^^^ a = b ^^^ c := by rw [Nat.xor_comm _ a, Nat.xor_assoc a b c, ← Nat.xor_assoc, Nat.xor_self, Nat.zero_xor]
theorem xm (a b : Nat) : (a ^^^ b) ^^^ a = b := by rw [Nat.xor_comm a b, Nat.xor_assoc, Nat.xor_self, Nat.xor_zero]
section
variable {xs : List ByteArray} {n : Nat} (h4 : ∀ x ∈ xs, x.size = n)
include h4
theorem txt_at {f : Nat → Nat} {l : Nat} (hl : l < xs.length) (hf : ∀ j, j < n → f j = bn (xs.getD l ByteArray.empty) j) : txt n f = xs.getD l ByteArray.empty := by
 refine bn_ext (by rw [txt_size]; exact (h4 _ (gmem ByteArray.empty hl)).symm) (fun j hj => ?_)
 rw [txt_size] at hj; rw [← hf j hj]
 exact bn_txt n f j hj (by rw [hf j hj]; exact bn_lt _ _)
theorem one_self {l : Nat} (hl : l ≤ xs.length + 1) : one xs (txt n (pP xs)) (txt n (pQ xs 0)) n l = (xs, txt n (pP xs), txt n (pQ xs 0)) := by
 unfold one
 by_cases c1 : l < xs.length
 ·rw [if_pos c1]
  have hb : blank xs n l = xs.set l (zer n) := by unfold blank; rw [if_pos c1]
  have h : (txt n fun j => pP (blank xs n l) j ^^^ bn (txt n (pP xs)) j) = xs.getD l ByteArray.empty := txt_at h4 c1 (fun j hj => by
   rw [bn_txt n (pP xs) j hj (pP_lt xs j), hb, pP_set j _ xs l c1, bn_zer n j hj, Nat.xor_zero, xm])
  rw [h, hb, List.set_set, set_self xs l c1]
 ·rw [if_neg c1, blank_off xs n l (by omega)]
  split <;> rfl
theorem two_self {a b : Nat} (hn : xs.length ≤ 16) (hab : a < b) (hb : b ≤ xs.length + 1) : two xs (txt n (pP xs)) (txt n (pQ xs 0)) n a b = (xs, txt n (pP xs), txt n (pQ xs 0)) := by
 unfold two; simp only []
 by_cases c1 : a = xs.length
 ·rw [if_pos c1, blank_off xs n a (by omega), blank_off xs n b (by omega)]
 ·rw [if_neg c1]
  have ha : a < xs.length := by omega
  have hba : blank xs n a = xs.set a (zer n) := by unfold blank; rw [if_pos ha]
  by_cases c2 : b = xs.length
  ·rw [if_pos c2]
   have h : (txt n fun j => gm (GF.inv (ex a)) (pQ (blank (blank xs n a) n b) 0 j ^^^ bn (txt n (pQ xs 0)) j)) = xs.getD a ByteArray.empty := txt_at h4 ha (fun j hj => by
    rw [blank_off _ n b (by rw [blank_len]; omega), hba, bn_txt n (pQ xs 0) j hj (pQ_lt xs 0 j), pQ_set j _ xs a 0 ha, bn_zer n j hj, Nat.xor_zero, xm, Nat.zero_add]
    rw [← gm_assoc _ _ _ (inv_lt _) (ex_lt a) (bn_lt _ j), gm_comm _ _ (inv_lt _) (ex_lt a), gm_inv _ (ex_lt a) (ex_ne a), one_gm _ (bn_lt _ j)])
   rw [h, blank_off _ n b (by rw [blank_len]; omega), hba, List.set_set, set_self xs a ha]
  ·rw [if_neg c2]
   by_cases c3 : b = xs.length + 1
   ·rw [if_pos c3]
    have h : (txt n fun j => pP (blank (blank xs n a) n b) j ^^^ bn (txt n (pP xs)) j) = xs.getD a ByteArray.empty := txt_at h4 ha (fun j hj => by
     rw [blank_off _ n b (by rw [blank_len]; omega), hba, bn_txt n (pP xs) j hj (pP_lt xs j), pP_set j _ xs a ha, bn_zer n j hj, Nat.xor_zero, xm])
    rw [h, blank_off _ n b (by rw [blank_len]; omega), hba, List.set_set, set_self xs a ha]
   ·rw [if_neg c3]
    have hb' : b < xs.length := by omega
    have hbb : blank (blank xs n a) n b = (xs.set a (zer n)).set b (zer n) := by
     rw [hba]; unfold blank; rw [if_pos (by rw [List.length_set]; exact hb')]
    have hgb : (xs.set a (zer n)).getD b ByteArray.empty = xs.getD b ByteArray.empty := by rw [gset _ _ _ _ _ ha, if_neg (by omega)]
    have hP : ∀ j, j < n → pP (blank (blank xs n a) n b) j ^^^ bn (txt n (pP xs)) j = bn (xs.getD a ByteArray.empty) j ^^^ bn (xs.getD b ByteArray.empty) j := fun j hj => by
     rw [hbb, bn_txt n (pP xs) j hj (pP_lt xs j), pP_set j _ _ b (by rw [List.length_set]; exact hb'), pP_set j _ xs a ha, hgb, bn_zer n j hj, Nat.xor_zero, Nat.xor_zero, xm3]
    have hQ : ∀ j, j < n → pQ (blank (blank xs n a) n b) 0 j ^^^ bn (txt n (pQ xs 0)) j = gm (ex a) (bn (xs.getD a ByteArray.empty) j) ^^^ gm (ex b) (bn (xs.getD b ByteArray.empty) j) := fun j hj => by
     rw [hbb, bn_txt n (pQ xs 0) j hj (pQ_lt xs 0 j), pQ_set j _ _ b 0 (by rw [List.length_set]; exact hb'), pQ_set j _ xs a 0 ha, hgb, bn_zer n j hj, Nat.xor_zero, Nat.xor_zero, xm3, Nat.zero_add, Nat.zero_add]
    have hE : ex a ^^^ ex b ≠ 0 := fun h => by
     have h2 := congrArg (fun z => z ^^^ ex b) h
     have h3 : ex a = ex b := by simpa [Nat.xor_assoc] using h2
     have := ex_inj a b (by omega) (by omega) h3
     omega
    have hEl := xor_lt _ _ (ex_lt a) (ex_lt b)
    have hA : ∀ j, j < n → gm (GF.inv (ex a ^^^ ex b)) ((pQ (blank (blank xs n a) n b) 0 j ^^^ bn (txt n (pQ xs 0)) j) ^^^ gm (ex b) (pP (blank (blank xs n a) n b) j ^^^ bn (txt n (pP xs)) j)) = bn (xs.getD a ByteArray.empty) j := fun j hj => by
     rw [hP j hj, hQ j hj, gm_right (ex b), Nat.xor_comm (gm (ex b) (bn (xs.getD a ByteArray.empty) j)), Nat.xor_assoc, ← Nat.xor_assoc (gm (ex b) (bn (xs.getD b ByteArray.empty) j)), Nat.xor_self, Nat.zero_xor, ← gm_left _ _ _ (ex_lt a) (ex_lt b)]; rw [← gm_assoc _ _ _ (inv_lt _) hEl (bn_lt _ j), gm_comm _ _ (inv_lt _) hEl, gm_inv _ hEl hE, one_gm _ (bn_lt _ j)]
    have tA := txt_at h4 ha hA
    have tB : (txt n fun j => (pP (blank (blank xs n a) n b) j ^^^ bn (txt n (pP xs)) j) ^^^ gm (GF.inv (ex a ^^^ ex b)) ((pQ (blank (blank xs n a) n b) 0 j ^^^ bn (txt n (pQ xs 0)) j) ^^^ gm (ex b) (pP (blank (blank xs n a) n b) j ^^^ bn (txt n (pP xs)) j))) = xs.getD b ByteArray.empty := txt_at h4 hb' (fun j hj => by
     rw [hA j hj, hP j hj, xm])
    rw [tA, tB, hbb, List.set_comm _ _ (show b ≠ a by omega), List.set_set, List.set_set, set_self xs a ha, set_self xs b hb']
end
theorem one_is {T : T3} {N n l : Nat} (h : Wf T N n) (hl : l ≤ N + 1) : ∃ u : ByteArray, u.size = n ∧ one T.1 T.2.1 T.2.2 n l = pt T l u := by
 have hN := h.len
 unfold one pt
 by_cases c1 : l < T.1.length
 ·refine ⟨_, txt_size n (fun j => pP (blank T.1 n l) j ^^^ bn T.2.1 j), ?_⟩
  rw [if_pos c1, if_pos c1]; unfold blank; rw [if_pos c1, List.set_set]
 ·by_cases c2 : l = T.1.length
  ·refine ⟨_, txt_size n (pP (blank T.1 n l)), ?_⟩
   rw [if_neg c1, if_neg c1, if_pos c2, if_pos c2, blank_off _ n l (by omega)]
  ·refine ⟨_, txt_size n (pQ (blank T.1 n l) 0), ?_⟩
   rw [if_neg c1, if_neg c1, if_neg c2, if_neg c2, blank_off _ n l (by omega)]
theorem dk_pt_same {T : T3} {N n l : Nat} (h : Wf T N n) (hl : l ≤ N + 1) (t : ByteArray) : dk (pt T l t) l = t := by
 have hN := h.len
 unfold dk; rw [pt_len]; unfold pt
 by_cases c1 : l < T.1.length
 ·simp only [if_pos c1]; rw [gset _ _ _ _ _ c1, if_pos rfl]
 ·simp only [if_neg c1]
  by_cases c2 : l = T.1.length
  ·simp only [if_pos c2]
  ·simp only [if_neg c2]
theorem dk_pt_ne {T : T3} {N n l m : Nat} (h : Wf T N n) (hl : l ≤ N + 1) (hm : m ≤ N + 1) (hne : m ≠ l) (t : ByteArray) : dk (pt T l t) m = dk T m := by
 have hN := h.len
 unfold dk; rw [pt_len]; unfold pt
 by_cases c1 : l < T.1.length
 ·simp only [if_pos c1]; rw [gset _ _ _ _ _ c1, if_neg hne]
 ·simp only [if_neg c1]
  by_cases c2 : l = T.1.length
  ·simp only [if_pos c2]
   rw [if_neg (show ¬ m = T.1.length by omega), if_neg (show ¬ m = T.1.length by omega)]
  ·simp only [if_neg c2]
   by_cases c3 : m < T.1.length
   ·rw [if_pos c3, if_pos c3]
   ·rw [if_neg c3, if_neg c3, if_pos (show m = T.1.length by omega), if_pos (show m = T.1.length by omega)]
theorem pt_dk (T : T3) (l : Nat) : pt T l (dk T l) = T := by
 unfold pt dk
 by_cases c1 : l < T.1.length
 ·simp only [if_pos c1]; rw [set_self _ _ c1]
 ·simp only [if_neg c1]
  by_cases c2 : l = T.1.length
  ·simp only [if_pos c2]
  ·simp only [if_neg c2]
theorem pt_pt (T : T3) (l : Nat) (t u : ByteArray) : pt (pt T l t) l u = pt T l u := by
 unfold pt
 by_cases c1 : l < T.1.length
 ·simp only [if_pos c1, List.length_set]; rw [List.set_set]
 ·simp only [if_neg c1]
  by_cases c2 : l = T.1.length
  ·simp only [if_pos c2, if_neg c1]
  ·simp only [if_neg c2, if_neg c1]
def rs (xs : List ByteArray) (n : Nat) : T3 := (xs, txt n (pP xs), txt n (pQ xs 0))
theorem rs_of {T : T3} {N n : Nat} (h : Wf T N n) (h1 : 1 ≤ N) (hr : right T.1 T.2.1 T.2.2 = true) : T = rs T.1 n := by
 unfold right at hr; rw [h.all _ (gmem ByteArray.empty (by have := h.len; omega)), Bool.and_eq_true, decide_eq_true_eq, decide_eq_true_eq, tl_iff, tl_iff] at hr; unfold rs; rw [← hr.1, ← hr.2]
theorem right_rs {xs : List ByteArray} {n : Nat} (hn : (xs.getD 0 ByteArray.empty).size = n) : right xs (txt n (pP xs)) (txt n (pQ xs 0)) = true := by
 unfold right; rw [hn, decide_eq_true rfl, decide_eq_true rfl]
 rfl
theorem rs_wf {xs : List ByteArray} {n : Nat} (h4 : ∀ x ∈ xs, x.size = n) : Wf (rs xs n) xs.length n := ⟨rfl, h4, txt_size _ _, txt_size _ _⟩
theorem uniq {xs : List ByteArray} {n d l : Nat} {t : ByteArray} (h1 : 1 ≤ xs.length) (h2 : xs.length ≤ 16) (h4 : ∀ x ∈ xs, x.size = n) (ht : t.size = n) (hd : d ≤ xs.length + 1) (hl : l ≤ xs.length + 1) (hne : l ≠ d)
  (hr : right (one (pt (rs xs n) d t).1 (pt (rs xs n) d t).2.1 (pt (rs xs n) d t).2.2 n l).1 (one (pt (rs xs n) d t).1 (pt (rs xs n) d t).2.1 (pt (rs xs n) d t).2.2 n l).2.1 (one (pt (rs xs n) d t).1 (pt (rs xs n) d t).2.1 (pt (rs xs n) d t).2.2 n l).2.2 = true) : pt (rs xs n) d t = rs xs n := by
 have w0 : Wf (rs xs n) xs.length n := rs_wf h4
 have w1 : Wf (pt (rs xs n) d t) xs.length n := pt_wf w0 ht
 obtain ⟨u, hu, eu⟩ := one_is w1 hl
 have w2 : Wf (pt (pt (rs xs n) d t) l u) xs.length n := pt_wf w1 hu
 rw [eu] at hr
 have e2 := rs_of w2 h1 hr
 have key : ∀ a b : Nat, a < b → b ≤ xs.length + 1 → (a = d ∧ b = l ∨ a = l ∧ b = d) → pt (pt (rs xs n) d t) l u = rs xs n := by
  intro a b hab hb hs
  have L0 : (rs xs n).1.length = xs.length := w0.len
  have L1 : (pt (rs xs n) d t).1.length = xs.length := w1.len
  have T0 : two (pt (pt (rs xs n) d t) l u).1 (pt (pt (rs xs n) d t) l u).2.1 (pt (pt (rs xs n) d t) l u).2.2 n a b = rs xs n := by
   rcases hs with ⟨rfl, rfl⟩ | ⟨rfl, rfl⟩
   ·rw [two_pt_b _ n a b u hab (by omega), two_pt_a _ n a b t hab (by omega)]
    exact two_self h4 h2 hab hb
   ·rw [two_pt_a _ n a b u hab (by omega), two_pt_b _ n a b t hab (by omega)]
    exact two_self h4 h2 hab hb
  have T1 : two (pt (pt (rs xs n) d t) l u).1 (pt (pt (rs xs n) d t) l u).2.1 (pt (pt (rs xs n) d t) l u).2.2 n a b = pt (pt (rs xs n) d t) l u := by
   have hs2 := two_self (xs := (pt (pt (rs xs n) d t) l u).1) (n := n) (a := a) (b := b) w2.all (by rw [w2.len]; exact h2) hab (by rw [w2.len]; exact hb)
   conv => lhs; rw [e2]
   conv => rhs; rw [e2]
   exact hs2
  exact T1.symm.trans T0
 have e3 : pt (pt (rs xs n) d t) l u = rs xs n := by
  by_cases h : d < l
  ·exact key d l h hl (Or.inl ⟨rfl, rfl⟩)
  ·exact key l d (by omega) hd (Or.inr ⟨rfl, rfl⟩)
 have e4 : t = dk (rs xs n) d := by
  have := dk_pt_ne w1 hl hd (Ne.symm hne) u
  rw [e3, dk_pt_same w0 hd t] at this
  exact this.symm
 rw [e4]
 exact pt_dk _ _
theorem sgo_held (W : Nat → Bool) (m : Nat) : ∀ (d i : Nat), m < i → (∀ l, i ≤ l → l < i + d → W l = false) → sgo W d i (some m) = ((m : Int), true)
 | 0, i, _, _ => rfl
 | d + 1, i, hm, h => by
  rw [sgo, h i (by omega) (by omega), if_neg (by decide)]
  exact sgo_held W m d (i + 1) (by omega) (fun l h1 h2 => h l (by omega) (by omega))
theorem sgo_only (W : Nat → Bool) (m : Nat) (hm : W m = true) : ∀ (d i : Nat), i ≤ m → m < i + d → (∀ l, i ≤ l → l < i + d → l ≠ m → W l = false) → sgo W d i none = ((m : Int), true)
 | 0, i, h1, h2, _ => by omega
 | d + 1, i, h1, h2, h => by
  by_cases hi : i = m
  ·rw [sgo, hi, hm, if_pos rfl]
   exact sgo_held W m d (m + 1) (by omega) (fun l h3 h4 => h l (by omega) (by omega) (by omega))
  ·rw [sgo, h i (by omega) (by omega) hi, if_neg (by decide)]
   exact sgo_only W m hm d (i + 1) (by omega) (by omega) (fun l h3 h4 h5 => h l (by omega) (by omega) h5)
theorem find_i {xs : List ByteArray} {p q : ByteArray} {n : Nat} (hg : goodS xs p q = true) (hn : (xs.getD 0 ByteArray.empty).size = n) : Ev (fun k => impl_FindWrong.f k xs p q) (if right xs p q = true then (0, false) else sgo (fun l => right (one xs p q n l).1 (one xs p q n l).2.1 (one xs p q n l).2.2) (xs.length + 2) 0 none) := by
 unfold impl_FindWrong.f
 have he := good_even hg
 obtain ⟨hp, hq, b1, b2, b3, b4⟩ := good_all hg hn.symm
 refine ev_to_some (impl_good xs p q) ?_
 rw [hg]
 refine evp rfl (Ev.bind (impl_right p q he) ?_)
 cases hr : right xs p q with
 | true => exact Ev.step (fun k => by simp only [impl_FindWrong.j0, if_true]) (Ev.now _)
 | false =>
  have w2 : wrap64 ((xs.length : Int) + 2) = (xs.length : Int) + 2 := by unfold wrap64; omega
  refine Ev.step (fun k => by simp only [impl_FindWrong.j0]; rw [if_neg (by decide), w2]) ?_
  exact impl_find b1 b2 b3 b4 p q hp (xs.length + 2) 0 none (by omega)
theorem rec_two_i {xs : List ByteArray} {p q : ByteArray} {n : Nat} (hg : goodS xs p q = true) (hn : (xs.getD 0 ByteArray.empty).size = n) (u v a b : Nat) (hu : u ≤ xs.length + 1) (hv : v ≤ xs.length + 1) (hab : a < b) (hs : a = u ∧ b = v ∨ a = v ∧ b = u) :
  Ev (fun k => impl_RecoverTwo.f k xs p q (u : Int) (v : Int)) ((two xs p q n a b).1, (two xs p q n a b).2.1, (two xs p q n a b).2.2, true) := by
 obtain ⟨hp, hq, b1, b2, b3, b4⟩ := good_all hg hn.symm
 unfold impl_RecoverTwo.f
 refine ev_to_some (isDisk xs p q _ (by omega)) ?_
 rw [hg, decide_eq_true (show (u : Int) ≥ 0 ∧ (u : Int) ≤ (xs.length : Int) + 1 by omega)]
 refine evp rfl (ev_to_some (isDisk xs p q _ (by omega)) ?_)
 rw [hg, decide_eq_true (show (v : Int) ≥ 0 ∧ (v : Int) ≤ (xs.length : Int) + 1 by omega), show ((u : Int) == (v : Int)) = false from beq_eq_false_iff_ne.mpr (by omega)]
 refine evp rfl ?_
 rcases hs with ⟨rfl, rfl⟩ | ⟨rfl, rfl⟩
 ·exact (impl_two b1 b2 b3 b4 p q a b hp hq hab (by omega)).1
 ·exact (impl_two b1 b2 b3 b4 p q a b hp hq hab (by omega)).2
theorem texts_l (xs ys : List ByteArray) (hl : xs.length < 2 ^ 40) (hy : ys.length = xs.length) (d : Nat) : ∀ i : Nat, i + d = xs.length → Ev (fun k => laws_sameTexts.l0 k xs ys (xs.length : Int) (i : Int)) (decide (xs.drop i = ys.drop i)) := by
 induction d with
 | zero =>
  intro i hi; rw [List.drop_eq_nil_of_le (by omega), List.drop_eq_nil_of_le (by omega), decide_eq_true rfl]
  exact Ev.step (fun k => by simp only [laws_sameTexts.l0]; rw [if_neg (by omega)]) (Ev.now _)
 | succ d ih =>
  intro i hi
  refine Ev.step (fun k => by simp only [laws_sameTexts.l0]; rw [if_pos (by omega), if_pos (by omega), if_pos (by omega), if_pos (by omega), rdOf_nat, rdOf_nat, inc i (by omega)]) ?_
  rw [drop_at xs i (by omega), drop_at ys i (by omega)]
  by_cases h : xs.getD i ByteArray.empty = ys.getD i ByteArray.empty
  ·refine evp ((tl_iff _ _).mpr h) ?_
   rw [h, show decide (ys.getD i ByteArray.empty :: xs.drop (i + 1) = ys.getD i ByteArray.empty :: ys.drop (i + 1)) = decide (xs.drop (i + 1) = ys.drop (i + 1)) by rw [decide_eq_decide, List.cons.injEq]; simp]
   exact ih (i + 1) (by omega)
  ·refine evn (fun e => h ((tl_iff _ _).mp e)) ?_
   rw [decide_eq_false (fun e => h (List.cons.inj e).1)]
   exact Ev.now _
theorem stripes_eq (T U : T3) (hl : T.1.length < 2 ^ 40) (hy : U.1.length = T.1.length) : Ev (fun k => laws_sameStripes.f k T.1 T.2.1 T.2.2 U.1 U.2.1 U.2.2) (decide (T = U)) := by
 unfold laws_sameStripes.f laws_sameTexts.f
 obtain ⟨xs, p, q⟩ := T
 obtain ⟨ys, p', q'⟩ := U
 by_cases h1 : p = p'
 ·refine evp ((tl_iff _ _).mpr h1) ?_
  by_cases h2 : q = q'
  ·refine evp ((tl_iff _ _).mpr h2) ?_
   have := texts_l xs ys hl hy xs.length 0 (by omega)
   rw [List.drop_zero, List.drop_zero] at this
   rw [show decide ((xs, p, q) = (ys, p', q')) = decide (xs = ys) by rw [decide_eq_decide, Prod.mk.injEq, Prod.mk.injEq]; exact ⟨fun h => h.1, fun h => ⟨h, h1, h2⟩⟩]
   exact Ev.bind (evp (by show (xs.length : Int) = (ys.length : Int); have h : ys.length = xs.length := hy; omega) this) (Ev.now _)
  ·refine evn (fun e => h2 ((tl_iff _ _).mp e)) ?_
   rw [decide_eq_false (fun e => h2 (Prod.mk.inj (Prod.mk.inj e).2).2)]
   exact Ev.now _
 ·refine evn (fun e => h1 ((tl_iff _ _).mp e)) ?_
  rw [decide_eq_false (fun e => h1 (Prod.mk.inj (Prod.mk.inj e).2).1)]
  exact Ev.now _
theorem make_full (xs : List ByteArray) : Ev (fun k => impl_MakeStripe.f k xs) (if even xs = true then (xs, txt (xs.getD 0 ByteArray.empty).size (pP xs), txt (xs.getD 0 ByteArray.empty).size (pQ xs 0), true) else ([], (⟨#[]⟩ : ByteArray), (⟨#[]⟩ : ByteArray), false)) := by
 cases he : even xs with
 | true => exact make_i he rfl
 | false =>
  unfold impl_MakeStripe.f
  refine ev_to_some (areEqual xs) ?_
  rw [he]
  exact evn (by decide) (Ev.now _)
theorem num_l (cs : List Int) (hb : ∀ x ∈ cs, (Lit.int .u8 x).wf = true) (hl : cs.length < 2 ^ 40) (d : Nat) : ∀ (i : Nat) (x : Int), i + d = cs.length → 0 ≤ x → x < 1000003 → ∃ r, Ev (fun k => laws_numberOf.l0 k x cs (cs.length : Int) (i : Int)) r ∧ 0 ≤ r ∧ r < 1000003 := by
 induction d with
 | zero => intro i x hi h0 h1; exact ⟨x, Ev.step (fun k => by simp only [laws_numberOf.l0]; rw [if_neg (by omega)]) (Ev.now _), h0, h1⟩
 | succ d ih =>
  intro i x hi h0 h1
  have hby := cur_rd cs hb (i : Int) (by omega) (by omega)
  have hw : wrap64 ((wrap64 (31 * x)) + (wrap64 (rd cs (i : Int)))) = 31 * x + rd cs (i : Int) := by unfold wrap64; omega
  obtain ⟨r, e, h2, h3⟩ := ih (i + 1) (Int.tmod (31 * x + rd cs (i : Int)) 1000003) (by omega) (Int.tmod_nonneg _ (by omega)) (Int.tmod_lt_of_pos _ (by omega))
  exact ⟨r, Ev.step (fun k => by simp only [laws_numberOf.l0]; rw [if_pos (by omega), if_pos (by omega), if_pos (by omega), hw, inc i (by omega)]) e, h2, h3⟩
theorem num (cs : List Int) (hb : ∀ x ∈ cs, (Lit.int .u8 x).wf = true) (hl : cs.length < 2 ^ 40) : ∃ r, Ev (fun k => laws_numberOf.f k cs) r ∧ 0 ≤ r ∧ r < 1000003 := num_l cs hb hl cs.length 0 0 (by omega) (by omega) (by omega)
theorem par_j4 (cs : List Int) (hb : ∀ x ∈ cs, (Lit.int .u8 x).wf = true) : Ev (fun k => laws_FnParity.j4 k cs) true := by
 obtain ⟨xs, p, q, a0, s0, e0, hxl, hpl, g0, g1⟩ := d_stripe cs hb
 have w3 : wrap64 ((xs.length : Int) + 3) = (xs.length : Int) + 3 := by unfold wrap64; omega
 have w2 : wrap64 ((xs.length : Int) + 2) = (xs.length : Int) + 2 := by unfold wrap64; omega
 obtain ⟨b1, a1, s1, e1, _, _, p0, p1⟩ := cur_pick cs hb a0 s0 5000 ((xs.length : Int) + 3) g0 g1 (by omega) (by omega)
 obtain ⟨b2, a2, s2, e2, _, _, q0, q1⟩ := cur_pick cs hb a1 s1 5002 2 p0 (by omega) (by omega) (by omega)
 obtain ⟨b3, a3, s3, e3, _, _, r0, r1⟩ := cur_pick cs hb a2 s2 5004 2 q0 (by omega) (by omega) (by omega)
 obtain ⟨b4, a4, s4, e4, _, _, t0, t1⟩ := cur_pick cs hb a3 s3 5006 ((xs.length : Int) + 2) r0 (by omega) (by omega) (by omega)
 have ed : Ev (fun k => spec_DrawRecoverTwo.f k cs) (xs, p, q, wrap64 (b1 - wrap64 (b2 * b3)), b4) := by
  unfold spec_DrawRecoverTwo.f
  refine Ev.bind e0 ?_
  rw [w3, w2]
  exact ev_to_some e1 (ev_to_some e2 (ev_to_some e3 (ev_to_some e4 (Ev.now _))))
 obtain ⟨rx, rp, rq, ok, hrx, f1, f2⟩ := both_RecoverTwo xs p q (wrap64 (b1 - wrap64 (b2 * b3))) b4 (by omega)
 refine Ev.step (fun k => by simp only [laws_FnParity.j4]; rfl) (Ev.bind ed (Ev.bind f2 (Ev.bind f1 (evp (beq_self_eq_true _) (Ev.bind (same_stripes rx rp rq hrx) (Ev.now _))))))
section
variable {xs : List ByteArray} {n : Nat} (h1 : 1 ≤ xs.length) (h2 : xs.length ≤ 16) (h3 : n ≤ 40) (h4 : ∀ x ∈ xs, x.size = n)
include h1 h2 h3 h4
theorem wf_good {T : T3} (w : Wf T xs.length n) : goodS T.1 T.2.1 T.2.2 = true ∧ (T.1.getD 0 ByteArray.empty).size = n := by
 have hl := w.len
 obtain ⟨e1, e2⟩ := even_of (xs := T.1) (n := n) (by omega) (by omega) h3 w.all
 exact ⟨good_mk e1 e2.symm w.p w.q, e2.symm⟩
theorem par_end (l1 : List Int) (J4 : Ev (fun k => laws_FnParity.j4 k l1) true) (u v : Nat) (hu : u ≤ xs.length + 1) (hv : v ≤ xs.length + 1) (t0 t1 : ByteArray) (ht0 : t0.size = n) (ht1 : t1.size = n) (L : List Int) (M i : Int) (hi : ¬ i < M) :
  Ev (fun k => laws_FnParity.l0 k l1 xs (u : Int) (v : Int) L M i (rs xs n).1 (rs xs n).2.1 (rs xs n).2.2 (pt (pt (rs xs n) u t0) v t1).1 (pt (pt (rs xs n) u t0) v t1).2.1 (pt (pt (rs xs n) u t0) v t1).2.2) true := by
 have w0 : Wf (rs xs n) xs.length n := rs_wf h4
 have w1 : Wf (pt (rs xs n) u t0) xs.length n := pt_wf w0 ht0
 have w2 : Wf (pt (pt (rs xs n) u t0) v t1) xs.length n := pt_wf w1 ht1
 have hl2 := w2.len
 obtain ⟨hg, hn⟩ := wf_good h1 h2 h3 h4 w2
 have hsame : Ev (fun k => laws_sameStripes.f k (rs xs n).1 (rs xs n).2.1 (rs xs n).2.2 (rs xs n).1 (rs xs n).2.1 (rs xs n).2.2) true := same_stripes xs _ _ (by omega)
 refine Ev.step (fun k => by simp only [laws_FnParity.l0]; rw [if_neg hi]) ?_
 by_cases huv : u = v
 ·subst huv
  refine evp rfl ?_
  rw [pt_pt] at w2 hl2 hg hn ⊢
  have r1 := rec_one_i hg hn u (by omega)
  have e1 : one (pt (rs xs n) u t1).1 (pt (rs xs n) u t1).2.1 (pt (rs xs n) u t1).2.2 n u = rs xs n := by
   rw [one_pt]
   exact one_self h4 hu
  rw [e1] at r1
  have f1 := find_i hg hn
  have q1 := stripes_eq (pt (rs xs n) u t1) (rs xs n) (by omega) (by rw [pt_len])
  refine Ev.bind r1 (Ev.bind f1 (evp rfl (Ev.bind hsame (evp rfl ?_))))
  by_cases hT : pt (rs xs n) u t1 = rs xs n
  ·have hr : right (pt (rs xs n) u t1).1 (pt (rs xs n) u t1).2.1 (pt (rs xs n) u t1).2.2 = true := by
    rw [hT]
    exact right_rs (by rw [hT] at hn; exact hn)
   rw [if_pos hr]; rw [decide_eq_true hT] at q1
   exact evn (by decide) (Ev.bind q1 (evn (by decide) J4))
  ·have hr : right (pt (rs xs n) u t1).1 (pt (rs xs n) u t1).2.1 (pt (rs xs n) u t1).2.2 = false := by
    cases hr : right (pt (rs xs n) u t1).1 (pt (rs xs n) u t1).2.1 (pt (rs xs n) u t1).2.2 with
    | false => rfl
    | true =>
     exfalso
     apply hT
     have e2 := rs_of w2 h1 hr
     have e3 := one_self (xs := (pt (rs xs n) u t1).1) (n := n) (l := u) w2.all (by omega)
     have e4 : one (pt (rs xs n) u t1).1 (pt (rs xs n) u t1).2.1 (pt (rs xs n) u t1).2.2 n u = pt (rs xs n) u t1 := by
      conv => lhs; rw [e2]
      conv => rhs; rw [e2]
      exact e3
     rw [← e4, e1]
   rw [if_neg (by rw [hr]; decide)]
   have hW : right (rs xs n).1 (rs xs n).2.1 (rs xs n).2.2 = true := right_rs (h4 _ (gmem ByteArray.empty (by omega)))
   rw [sgo_only _ u (by show right (one _ _ _ n u).1 (one _ _ _ n u).2.1 (one _ _ _ n u).2.2 = true; rw [e1]; exact hW) _ 0 (by omega) (by omega) (fun l _ hl hne => by
    cases hr2 : right (one (pt (rs xs n) u t1).1 (pt (rs xs n) u t1).2.1 (pt (rs xs n) u t1).2.2 n l).1 (one (pt (rs xs n) u t1).1 (pt (rs xs n) u t1).2.1 (pt (rs xs n) u t1).2.2 n l).2.1 (one (pt (rs xs n) u t1).1 (pt (rs xs n) u t1).2.1 (pt (rs xs n) u t1).2.2 n l).2.2 with
    | false => rfl
    | true => exact absurd (uniq h1 h2 h4 ht1 hu (by omega) hne hr2) hT)]
   rw [decide_eq_false hT] at q1
   exact evp rfl (evp rfl (Ev.bind q1 (evn (by show ¬ ((true == false) = true); decide) J4)))
 ·refine evn (by omega) ?_
  have key : ∀ a b : Nat, a < b → b ≤ xs.length + 1 → (a = u ∧ b = v ∨ a = v ∧ b = u) → Ev (fun k => impl_RecoverTwo.f k (pt (pt (rs xs n) u t0) v t1).1 (pt (pt (rs xs n) u t0) v t1).2.1 (pt (pt (rs xs n) u t0) v t1).2.2 (u : Int) (v : Int)) ((rs xs n).1, (rs xs n).2.1, (rs xs n).2.2, true) := by
   intro a b hab hb hs
   have r2 := rec_two_i hg hn u v a b (by omega) (by omega) hab hs
   have L0 : (rs xs n).1.length = xs.length := w0.len
   have L1 : (pt (rs xs n) u t0).1.length = xs.length := w1.len
   have e : two (pt (pt (rs xs n) u t0) v t1).1 (pt (pt (rs xs n) u t0) v t1).2.1 (pt (pt (rs xs n) u t0) v t1).2.2 n a b = rs xs n := by
    rcases hs with ⟨rfl, rfl⟩ | ⟨rfl, rfl⟩
    ·rw [two_pt_b _ n a b t1 hab (by omega), two_pt_a _ n a b t0 hab (by omega)]
     exact two_self h4 h2 hab hb
    ·rw [two_pt_a _ n a b t1 hab (by omega), two_pt_b _ n a b t0 hab (by omega)]
     exact two_self h4 h2 hab hb
   rw [e] at r2
   exact r2
  have hrec : Ev (fun k => impl_RecoverTwo.f k (pt (pt (rs xs n) u t0) v t1).1 (pt (pt (rs xs n) u t0) v t1).2.1 (pt (pt (rs xs n) u t0) v t1).2.2 (u : Int) (v : Int)) ((rs xs n).1, (rs xs n).2.1, (rs xs n).2.2, true) := by
   by_cases h : u < v
   ·exact key u v h hv (Or.inl ⟨rfl, rfl⟩)
   ·exact key v u (by omega) hu (Or.inr ⟨rfl, rfl⟩)
  exact Ev.bind hrec (evp rfl (Ev.bind hsame (evp rfl J4)))
theorem par_put (l1 : List Int) (u v : Int) (L : List Int) (M i : Int) (hi0 : 0 ≤ i) (hi1 : i < 100) (T : T3) (w : Wf T xs.length n) (d : Nat) (hd : d ≤ xs.length + 1) (e : Nat) : ∀ (j : Nat) (ys : List Int), j + e = n → ys.length = n → ∃ t : ByteArray, t.size = n ∧
  (Ev (fun k => laws_FnParity.l0 k l1 xs u v L M (i + 1) (rs xs n).1 (rs xs n).2.1 (rs xs n).2.2 (pt T d t).1 (pt T d t).2.1 (pt T d t).2.2) true →
   Ev (fun k => laws_FnParity.l1 k l1 xs u v (d : Int) ys L M i (n : Int) (j : Int) (rs xs n).1 (rs xs n).2.1 (rs xs n).2.2 T.1 T.2.1 T.2.2) true) := by
 have hl := w.len
 have w1 : wrap64 (i + 1) = i + 1 := by unfold wrap64; omega
 induction e with
 | zero =>
  intro j ys hj hy
  refine ⟨strOfNums ys, by rw [strOfNums_size]; exact hy, fun h => ?_⟩
  refine Ev.step (fun k => by simp only [laws_FnParity.l1]; rw [if_neg (by omega), w1, Int.toNat_natCast]) ?_
  by_cases c1 : d < xs.length
  ·refine evp (by omega) (evp (by omega) (evp (by omega) ?_))
   unfold pt at h; rw [if_pos (by omega)] at h
   exact h
  ·refine evn (by omega) ?_
   unfold pt at h; rw [if_neg (by omega)] at h
   by_cases c2 : d = xs.length
   ·refine evp (by omega) ?_
    rw [if_pos (by omega)] at h
    exact h
   ·refine evn (by omega) ?_
    rw [if_neg (by omega)] at h
    exact h
 | succ e ih =>
  intro j ys hj hy
  obtain ⟨t, ht, h⟩ := ih (j + 1) (ys.set j ((wrap64 ((wrap64 ((d : Int) * (j : Int))) + (l1.length : Int))) % 256)) (by omega) (by rw [List.length_set]; exact hy)
  refine ⟨t, ht, fun hh => Ev.step (fun k => by simp only [laws_FnParity.l1]; rw [if_pos (by omega), if_pos (by omega), if_pos (by omega), inc j (by omega), Int.toNat_natCast]) (h hh)⟩
theorem par_l0 (l1 : List Int) (u v : Int) (L : List Int) (i : Nat) (hi : i < L.length) (hL : L.length < 50) (d : Nat) (hLd : rd L (i : Int) = (d : Int)) (hd : d ≤ xs.length + 1) (T : T3) (w : Wf T xs.length n) : ∃ t : ByteArray, t.size = n ∧
  (Ev (fun k => laws_FnParity.l0 k l1 xs u v L (L.length : Int) ((i + 1 : Nat) : Int) (rs xs n).1 (rs xs n).2.1 (rs xs n).2.2 (pt T d t).1 (pt T d t).2.1 (pt T d t).2.2) true →
   Ev (fun k => laws_FnParity.l0 k l1 xs u v L (L.length : Int) (i : Int) (rs xs n).1 (rs xs n).2.1 (rs xs n).2.2 T.1 T.2.1 T.2.2) true) := by
 obtain ⟨t, ht, h⟩ := par_put h1 h2 h3 h4 l1 u v L (L.length : Int) (i : Int) (by omega) (by omega) T w d hd n 0 (List.replicate n 0) (by omega) (by simp)
 have hsz : ((rs xs n).2.1.size : Int) = (n : Int) := by rw [(rs_wf h4 : Wf (rs xs n) xs.length n).p]
 refine ⟨t, ht, fun hh => Ev.step (fun k => by simp only [laws_FnParity.l0]; rw [if_pos (by omega), if_pos (by omega), if_pos (by omega), hsz, if_pos (by omega), if_pos (by omega), hLd, Int.toNat_natCast]) (ev_some ?_)⟩
 rw [List.length_replicate]
 exact h hh
theorem par_j1 (l1 : List Int) (hb : ∀ x ∈ l1, (Lit.int .u8 x).wf = true) (hl1 : l1.length < 2 ^ 40) : Ev (fun k => laws_FnParity.j1 k l1 xs false (rs xs n).1 (rs xs n).2.1 (rs xs n).2.2) true := by
 obtain ⟨a, ea, ha0, ha1⟩ := num l1 hb hl1
 have w2 : wrap64 ((xs.length : Int) + 2) = (xs.length : Int) + 2 := by unfold wrap64; omega
 have hq0 : 0 ≤ Int.tdiv a ((xs.length : Int) + 2) := Int.tdiv_nonneg ha0 (by omega)
 have hq1 : Int.tdiv a ((xs.length : Int) + 2) ≤ a := by
  rw [Int.tdiv_eq_ediv_of_nonneg ha0]; exact Int.ediv_le_self _ ha0
 have w4 : wrap64 (Int.tdiv a ((xs.length : Int) + 2)) = Int.tdiv a ((xs.length : Int) + 2) := by unfold wrap64; omega
 obtain ⟨u, hu⟩ : ∃ u : Nat, Int.tmod a ((xs.length : Int) + 2) = (u : Int) := ⟨_, (Int.toNat_of_nonneg (Int.tmod_nonneg _ ha0)).symm⟩
 obtain ⟨v, hv⟩ : ∃ v : Nat, Int.tmod (Int.tdiv a ((xs.length : Int) + 2)) ((xs.length : Int) + 2) = (v : Int) := ⟨_, (Int.toNat_of_nonneg (Int.tmod_nonneg _ hq0)).symm⟩
 have hu1 : (u : Int) < (xs.length : Int) + 2 := by rw [← hu]; exact Int.tmod_lt_of_pos _ (by omega)
 have hv1 : (v : Int) < (xs.length : Int) + 2 := by rw [← hv]; exact Int.tmod_lt_of_pos _ (by omega)
 have w0 : Wf (rs xs n) xs.length n := rs_wf h4
 refine Ev.step (fun k => by simp only [laws_FnParity.j1]; rw [if_neg (by decide), w2]) ?_
 refine Ev.bind ea (evn (by omega) (Ev.bind ea (ev_some ?_)))
 rw [w4, hu, hv]
 refine evp (by have := w0.len; simp only [List.length_nil]; omega) (ev_some ?_)
 have J4 := par_j4 l1 hb
 obtain ⟨t0, ht0, g0⟩ := par_l0 h1 h2 h3 h4 l1 (u : Int) (v : Int) [(u : Int), (v : Int)] 0 (by simp) (by simp) u rfl (by omega) (rs xs n) w0
 obtain ⟨t1, ht1, g1⟩ := par_l0 h1 h2 h3 h4 l1 (u : Int) (v : Int) [(u : Int), (v : Int)] 1 (by simp) (by simp) v rfl (by omega) (pt (rs xs n) u t0) (pt_wf w0 ht0)
 exact g0 (g1 (par_end h1 h2 h3 h4 l1 J4 u v (by omega) (by omega) t0 t1 ht0 ht1 _ _ _ (by simp)))
end
theorem FnParity : laws_FnParity.Pure := by
 intro l0 l1 hl0 _ hb0 hl1 _ hb1
 refine Ev.rounds ?_
 unfold laws_FnParity.f
 by_cases hbig : (wrap64 ((l0.length : Int) + (l1.length : Int))) > 1048576
 ·exact evp hbig (Ev.now _)
 refine evn hbig ?_
 have hl1' : l1.length < 2 ^ 40 := by unfold wrap64 at hbig; omega
 obtain ⟨xs, a1, s1, e1, g1, g2, g3, g4⟩ := d_data l0 hb0 0 0 0 (by omega) (by omega) (by omega)
 have ed : Ev (fun k => spec_DrawMakeStripe.f k l0) xs := by
  unfold spec_DrawMakeStripe.f
  exact Ev.bind e1 (Ev.now _)
 have m1 := make_full xs
 have m2 := make_s xs (by omega)
 refine Ev.bind ed ?_
 cases he : even xs with
 | false =>
  rw [he, if_neg (by decide)] at m1 m2
  refine Ev.bind m1 (Ev.bind m2 (evn (by decide) (Ev.bind (same_stripes [] _ _ (by simp)) ?_)))
  exact Ev.step (fun k => by simp only [laws_FnParity.j0]; rw [if_neg (by decide), if_neg (by decide)]) (par_j4 l1 hb1)
 | true =>
  rw [he, if_pos rfl] at m1 m2
  obtain ⟨b1, b2, b3, b4⟩ := even_sizes he rfl
  generalize hn : (xs.getD 0 ByteArray.empty).size = n at m1 m2 b3 b4
  have hc := check_i xs (txt n (pP xs)) (txt n (pQ xs 0))
  rw [if_pos (good_mk he hn (txt_size _ _) (txt_size _ _)), right_rs hn] at hc
  have hgd : impl_GoodStripe.f xs (txt n (pP xs)) (txt n (pQ xs 0)) = some true := by
   rw [impl_good, good_mk he hn (txt_size _ _) (txt_size _ _)]
  refine Ev.bind m1 (Ev.bind m2 (evn (by show ¬ ((true != true) = true); decide) (Ev.bind (same_stripes xs _ _ (by omega)) ?_)))
  refine Ev.step (fun k => by simp only [laws_FnParity.j0]; rw [if_neg (by decide), if_pos True.intro]) (Ev.bind hc (evp rfl (evp rfl (ev_to_some hgd ?_))))
  exact par_j1 b1 b2 b3 b4 l1 hb1 hl1'
end Go.Proofs.Ytfijnlhklfmoeaa.Pure
