/- The laws of updated stripes hold of the drawn stripes; no condition. -/
import Derived.Test.YtfijnlhklfmoeaaGF
import Derived.Test.YtfijnlhklfmoeaaQFnUpdatedx12
import Derived.OpenShut
set_option linter.unusedVariables false
set_option linter.unusedSimpArgs false
namespace Go.Proofs.Ytfijnlhklfmoeaa.Pure
open Go.RowKit Go.Proofs.Ytfijnlhklfmoeaa.PFnUpdated Go.Proofs.YtfijnlhklfmoeaaW.PrintWords Go.Proofs.YtfijnlhklfmoeaaW.PrintLast Go.Proofs.YtfijnlhklfmoeaaW.PrintMore Go.Proofs.Ytfijnlhklfmoeaa.GF

theorem wr64 (n : Nat) (h : n < 2 ^ 62) : wrap64 (n : Int) = (n : Int) := by unfold wrap64; omega
theorem wri (n : Int) (h : 0 ≤ n) (h1 : n < 2 ^ 62) : wrap64 n = n := by unfold wrap64; omega
theorem byte_of {x : Int} (h : (Lit.int .u8 x).wf = true) : ∃ n : Nat, n < 256 ∧ x = (n : Int) := by
  have := bounds_u8 h
  exact ⟨x.toNat, by omega, by omega⟩
theorem shr_nat (b j q : Nat) (hj : j ≤ 8) (hq : q = b / 2 ^ j) : shr .u8 (b : Int) (j : Int) = (q : Int) := by
  unfold shr
  rw [Int.toNat_natCast, Nat.min_eq_left (show j ≤ IntKind.bits .u8 from hj), hq]
  simp
theorem and1_nat (q : Nat) (hq : q < 256) : Go.bits .and .u8 (q : Int) 1 = ((q % 2 : Nat) : Int) := by
  rw [and1_u8 (q : Int) (by omega) (by omega)]; simp
theorem and1_inat (q : Nat) (hq : q < 2 ^ 62) : Go.bits .and .i64 (q : Int) 1 = ((q % 2 : Nat) : Int) := by
  rw [and1_i64 (q : Int) (by omega) (by omega)]; simp
theorem dbl (x : Nat) (hx : x < 256) : wrap64 ((x : Int) * 2) = ((2 * x : Nat) : Int) := by unfold wrap64; omega
theorem inc (j : Nat) (hj : j < 2 ^ 62) : wrap64 ((j : Int) + 1) = ((j + 1 : Nat) : Int) := by unfold wrap64; omega
theorem x285 (x : Nat) (hx : x < 256) : Go.bits .xor .i64 ((2 * x : Nat) : Int) 285 = ((2 * x ^^^ 285 : Nat) : Int) := xor_i64 (2 * x) 285 (by omega) (by omega)
theorem xor_nat (o x : Nat) (ho : o < 256) (hx : x < 256) : Go.bits .xor .i64 (o : Int) (x : Int) = ((o ^^^ x : Nat) : Int) := xor_i64 o x (by omega) (by omega)
theorem xt_hi (x : Nat) (h : 2 * x > 255) : xt x = 2 * x ^^^ 285 := by unfold xt; rw [if_pos h]
theorem xt_lo (x : Nat) (h : ¬ 2 * x > 255) : xt x = 2 * x := by unfold xt; rw [if_neg h]

theorem within_tells (a b c : Int) : impl_within.f a b c = some (decide (a ≥ b ∧ a ≤ c)) := by
  unfold impl_within.f
  split
  · rename_i h; simp [h]
  · rename_i h; simp [h]
theorem l1In_tells (a b c : Int) : spec_l1In.f a b c = some (decide (a ≥ b ∧ a ≤ c)) := by
  unfold spec_l1In.f
  split
  · rename_i h; simp [h]
  · rename_i h; simp [h]

theorem ev_of {α : Type} {g : Nat → Option α} {r : α} (K : Nat) (h : ∀ k, K < k → g k = some r) : Ev g r := ⟨K + 1, fun k hk => h k (by omega)⟩
theorem evp {α : Type} {c : Prop} [Decidable c] {f g : Nat → Option α} {r : α} (h : c) (k : Ev f r) : Ev (fun n => if c then f n else g n) r := Ev.congr (fun _ => if_pos h) k
theorem evn {α : Type} {c : Prop} [Decidable c] {f g : Nat → Option α} {r : α} (h : ¬ c) (k : Ev g r) : Ev (fun n => if c then f n else g n) r := Ev.congr (fun _ => if_neg h) k
theorem ev_some {α β : Type} {a : α} {f : Nat → α → Option β} {r : β} (h : Ev (fun n => f n a) r) : Ev (fun n => (some a).bind (f n)) r := h
theorem ev_to_some {α β : Type} {o : Option α} {a : α} {f : Nat → α → Option β} {r : β} (ho : o = some a) (h : Ev (fun n => f n a) r) : Ev (fun n => o.bind (f n)) r := by subst ho; exact h
theorem maxLen_lt : maxLen < 2 ^ 63 := by decide

theorem gset {α : Type} (z : α) (xs : List α) (i j : Nat) (v : α) (hi : i < xs.length) : (xs.set i v).getD j z = if j = i then v else xs.getD j z := by
  simp only [List.getD_eq_getElem?_getD, List.getElem?_set]
  by_cases h : i = j
  · subst h; simp [hi]
  · rw [if_neg h, if_neg (fun e => h e.symm)]
theorem gext {α : Type} (z : α) {l m : List α} (hl : l.length = m.length) (h : ∀ j, j < l.length → l.getD j z = m.getD j z) : l = m := by
  apply List.ext_getElem hl
  intro j h1 h2
  have := h j h1
  simpa [List.getD_eq_getElem?_getD, h1, h2] using this
theorem rdOf_nat {α : Type} (z : α) (xs : List α) (i : Nat) : rdOf z xs (i : Int) = xs.getD i z := by unfold rdOf; rw [Int.toNat_natCast]
theorem gmem {α : Type} (z : α) {xs : List α} {i : Nat} (h : i < xs.length) : xs.getD i z ∈ xs := by
  rw [List.getD_eq_getElem?_getD]; simp [h]
/-- what a count of sizes leaves -/
def Left (B r : Int) : Prop := r < 0 ∨ 0 ≤ r ∧ r ≤ B

/-- texts of one length, as both say it -/
def even (xs : List ByteArray) : Bool := decide (1 ≤ xs.length ∧ xs.length ≤ 16) && (decide ((xs.getD 0 ByteArray.empty).size ≤ 40) && !(xs.any fun s => (s.size : Int) != ((xs.getD 0 ByteArray.empty).size : Int)))
theorem l3data_l (xs : List ByteArray) (hl : xs.length < 2 ^ 40) (d : Nat) : ∀ (i : Nat), i + d = xs.length →
    Ev (fun k => spec_l3Data.l0 k xs xs (xs.length : Int) (i : Int)) (if (xs.drop i).any (fun s => (s.size : Int) != ((xs.getD 0 ByteArray.empty).size : Int)) = true then false else decide (1 ≤ xs.length ∧ xs.length ≤ 16) && decide ((xs.getD 0 ByteArray.empty).size ≤ 40)) := by
  induction d with
  | zero =>
    intro i hi
    rw [List.drop_eq_nil_of_le (by omega), List.any_nil, if_neg (by decide)]
    refine Ev.step (fun k => by simp only [spec_l3Data.l0]; rw [if_neg (by omega), l1In_tells]) ?_
    by_cases h : 1 ≤ xs.length ∧ xs.length ≤ 16
    · rw [decide_eq_true h, decide_eq_true (show (xs.length : Int) ≥ 1 ∧ (xs.length : Int) ≤ 16 by omega), Bool.true_and]
      refine ev_some (evp rfl (evp (by omega) ?_))
      rw [show rdOf ByteArray.empty xs 0 = xs.getD 0 ByteArray.empty from rfl]
      by_cases h2 : (xs.getD 0 ByteArray.empty).size ≤ 40
      · rw [decide_eq_true h2, decide_eq_true (by omega)]; exact Ev.now _
      · rw [decide_eq_false h2, decide_eq_false (by omega)]; exact Ev.now _
    · rw [decide_eq_false h, decide_eq_false (show ¬ ((xs.length : Int) ≥ 1 ∧ (xs.length : Int) ≤ 16) by omega), Bool.false_and]
      exact ev_some (evn (by decide) (Ev.now _))
  | succ d ih =>
    intro i hi
    have hd : xs.drop i = xs.getD i ByteArray.empty :: xs.drop (i + 1) := by
      rw [List.drop_eq_getElem_cons (by omega)]; simp [List.getD_eq_getElem?_getD, show i < xs.length by omega]
    rw [hd, List.any_cons]
    by_cases h : ((xs.getD i ByteArray.empty).size : Int) = ((xs.getD 0 ByteArray.empty).size : Int)
    · rw [bne_eq_false_iff_eq.mpr h, Bool.false_or]
      refine Ev.step (fun k => by
        simp only [spec_l3Data.l0]
        rw [if_pos (by omega), if_pos (by omega), if_pos (by omega), if_pos (by omega), rdOf_nat, show rdOf ByteArray.empty xs 0 = xs.getD 0 ByteArray.empty from rfl, if_pos h, inc i (by omega)]) (ih (i + 1) (by omega))
    · rw [bne_iff_ne.mpr h, Bool.true_or, if_pos rfl]
      exact Ev.step (fun k => by
        simp only [spec_l3Data.l0]
        rw [if_pos (by omega), if_pos (by omega), if_pos (by omega), if_pos (by omega), rdOf_nat, show rdOf ByteArray.empty xs 0 = xs.getD 0 ByteArray.empty from rfl, if_neg h]) (Ev.now _)
theorem l3data (xs : List ByteArray) (hl : xs.length < 2 ^ 40) : Ev (fun k => spec_l3Data.f k xs) (even xs) := by
  have := l3data_l xs hl xs.length 0 (by omega)
  rw [List.drop_zero] at this
  unfold spec_l3Data.f even
  cases h : xs.any (fun s => (s.size : Int) != ((xs.getD 0 ByteArray.empty).size : Int)) with
  | true => rw [h, if_pos rfl] at this; simpa using this
  | false => rw [h, if_neg (by decide)] at this; simpa using this
theorem areEqual (xs : List ByteArray) : impl_areEqual.f xs = some (even xs) := rfl
theorem even_pos {xs : List ByteArray} (h : even xs = true) : 1 ≤ xs.length ∧ xs.length ≤ 16 ∧ (xs.getD 0 ByteArray.empty).size ≤ 40 ∧ ∀ x ∈ xs, x.size = (xs.getD 0 ByteArray.empty).size := by
  unfold even at h
  rw [Bool.and_eq_true, Bool.and_eq_true] at h
  obtain ⟨h1, h2, h3⟩ := h
  have h1 := of_decide_eq_true h1
  refine ⟨h1.1, h1.2, of_decide_eq_true h2, fun x hx => ?_⟩
  have h4 : xs.any (fun s => (s.size : Int) != ((xs.getD 0 ByteArray.empty).size : Int)) = false := by simpa using h3
  have h5 := List.any_eq_false.mp h4 x hx
  simp at h5
  simp only [List.getD_eq_getElem?_getD]; omega

/-- a stripe is right, as both say it -/
def goodS (xs : List ByteArray) (p q : ByteArray) : Bool := even xs && (decide (p.size = (xs.getD 0 ByteArray.empty).size) && decide (q.size = (xs.getD 0 ByteArray.empty).size))
theorem spec_good (xs : List ByteArray) (p q : ByteArray) (hl : xs.length < 2 ^ 40) : Ev (fun k => spec_GoodStripe.f k xs p q) (goodS xs p q) := by
  unfold spec_GoodStripe.f goodS
  refine Ev.bind (l3data xs hl) ?_
  cases he : even xs with
  | false => exact evn (by decide) (Ev.now _)
  | true =>
    have hp := even_pos he
    refine evp rfl (evp (by omega) ?_)
    rw [show rdOf ByteArray.empty xs 0 = xs.getD 0 ByteArray.empty from rfl]
    by_cases h : p.size = (xs.getD 0 ByteArray.empty).size
    · refine evp (by omega) ?_
      rw [decide_eq_true h, Bool.true_and, Bool.true_and, ← h]
      by_cases h2 : q.size = p.size
      · rw [decide_eq_true h2, h2, beq_self_eq_true]; exact Ev.now _
      · rw [decide_eq_false h2, beq_eq_false_iff_ne.mpr (by omega)]; exact Ev.now _
    · refine evn (by omega) ?_
      rw [decide_eq_false h]; exact Ev.now _
theorem impl_good (xs : List ByteArray) (p q : ByteArray) : impl_GoodStripe.f xs p q = some (goodS xs p q) := by
  unfold impl_GoodStripe.f goodS
  rw [areEqual]
  simp only [Option.bind_some]
  cases he : even xs with
  | false => rfl
  | true =>
    have hp := even_pos he
    rw [if_pos rfl, if_pos (by omega), show rdOf ByteArray.empty xs 0 = xs.getD 0 ByteArray.empty from rfl]
    by_cases h : p.size = (xs.getD 0 ByteArray.empty).size
    · rw [if_pos (by omega), decide_eq_true h, Bool.true_and, Bool.true_and]
      by_cases h2 : q.size = (xs.getD 0 ByteArray.empty).size
      · rw [decide_eq_true h2, h2, beq_self_eq_true]
      · rw [decide_eq_false h2, beq_eq_false_iff_ne.mpr (by omega)]
    · rw [if_neg (by omega), decide_eq_false h]; rfl

theorem impl_mul_l (n : Nat) : ∀ (k j x o b : Nat), n + j = 8 → n < k → x < 256 → o < 256 → b < 256 →
    impl_FieldMul.l0 k (b : Int) (o : Int) (j : Int) (x : Int) = some ((gmAux n x (b / 2 ^ j) o : Nat) : Int) := by
  induction n with
  | zero =>
    intro k j x o b hj hk hx ho hb
    obtain ⟨k, rfl⟩ : ∃ m, k = m + 1 := ⟨k - 1, by omega⟩
    simp only [impl_FieldMul.l0]
    rw [if_neg (by omega)]
    show some ((o : Int) % 256) = some (o : Int)
    rw [Int.emod_eq_of_lt (by omega) (by omega)]
  | succ n ih =>
    intro k j x o b hj hk hx ho hb
    obtain ⟨k, rfl⟩ : ∃ m, k = m + 1 := ⟨k - 1, by omega⟩
    obtain ⟨q, hq⟩ : ∃ q, q = b / 2 ^ j := ⟨_, rfl⟩
    have hq2 : q < 256 := by rw [hq]; exact Nat.lt_of_le_of_lt (Nat.div_le_self _ _) hb
    have hb2 : q / 2 = b / 2 ^ (j + 1) := by rw [hq, Nat.div_div_eq_div_mul, ← Nat.pow_succ]
    have hs : shr .u8 (b : Int) (j : Int) = (q : Int) := shr_nat b j q (by omega) hq
    rw [← hq]
    simp only [gmAux]
    rw [hb2]
    have hxt := xt_lt x hx
    have hox := xor_lt _ _ ho hx
    have i1 := ih k (j + 1) (xt x) (o ^^^ x) b (by omega) (by omega) hxt hox hb
    have i2 := ih k (j + 1) (xt x) o b (by omega) (by omega) hxt ho hb
    have c1 : (j : Int) < 8 := by omega
    have c2 : (0 : Int) ≤ (j : Int) := by omega
    clear hq hb2
    simp only [impl_FieldMul.l0]
    rw [if_pos c1, if_pos c2, hs, and1_nat q hq2, dbl x hx, inc j (by omega), x285 x hx, xor_nat o x ho hx]
    clear hs
    by_cases h1 : q % 2 = 1
    · rw [if_pos (by omega), if_pos h1]
      by_cases h2 : 2 * x > 255
      · rw [if_pos (by omega), ← xt_hi x h2]; exact i1
      · rw [if_neg (by omega), ← xt_lo x h2]; exact i1
    · rw [if_neg (by omega), if_neg h1]
      by_cases h2 : 2 * x > 255
      · rw [if_pos (by omega), ← xt_hi x h2]; exact i2
      · rw [if_neg (by omega), ← xt_lo x h2]; exact i2
theorem impl_mul (k a b : Nat) (hk : 8 < k) (ha : a < 256) (hb : b < 256) : impl_FieldMul.f k (a : Int) (b : Int) = some ((gm a b : Nat) : Int) := by
  unfold impl_FieldMul.f
  rw [wr64 a (by omega)]
  have := impl_mul_l 8 k 0 a 0 b (by omega) hk ha (by omega) hb
  simpa [gm] using this

theorem spec_mul_l (n : Nat) : ∀ (k x o y : Nat), n < k → y < 2 ^ n → n ≤ 8 → x < 256 → o < 256 →
    spec_l2Mul.l0 k (o : Int) (x : Int) (y : Int) = some ((gmAux n x y o : Nat) : Int) := by
  induction n with
  | zero =>
    intro k x o y hk hy _ hx ho
    obtain ⟨k, rfl⟩ : ∃ m, k = m + 1 := ⟨k - 1, by omega⟩
    have : y = 0 := by simpa using hy
    subst this
    simp only [spec_l2Mul.l0]
    rw [if_neg (by omega)]
    show some ((o : Int) % 256) = some (o : Int)
    rw [Int.emod_eq_of_lt (by omega) (by omega)]
  | succ n ih =>
    intro k x o y hk hy hn hx ho
    obtain ⟨k, rfl⟩ : ∃ m, k = m + 1 := ⟨k - 1, by omega⟩
    simp only [spec_l2Mul.l0]
    by_cases h0 : y = 0
    · subst h0
      rw [if_neg (by omega), gmAux_zero]
      rw [Int.emod_eq_of_lt (by omega) (by omega)]
    have hp : (2 : Nat) ^ (n + 1) ≤ 256 := by
      have := Nat.pow_le_pow_right (show 0 < 2 by decide) (show n + 1 ≤ 8 by omega)
      simpa using this
    have hy2 : y / 2 < 2 ^ n := by rw [Nat.pow_succ] at hy; omega
    have hxt := xt_lt x hx
    have hox := xor_lt _ _ ho hx
    have i1 := ih k (xt x) (o ^^^ x) (y / 2) (by omega) hy2 (by omega) hxt hox
    have i2 := ih k (xt x) o (y / 2) (by omega) hy2 (by omega) hxt ho
    rw [if_pos (by omega), and1_inat y (by omega), dbl x hx, x285 x hx, xor_nat o x ho hx, show (y : Int) / 2 = ((y / 2 : Nat) : Int) by simp]
    simp only [gmAux]
    by_cases h1 : y % 2 = 1
    · rw [if_pos (by omega), if_pos h1]
      by_cases h2 : 2 * x > 255
      · rw [if_pos (by omega), ← xt_hi x h2]; exact i1
      · rw [if_neg (by omega), ← xt_lo x h2]; exact i1
    · rw [if_neg (by omega), if_neg h1]
      by_cases h2 : 2 * x > 255
      · rw [if_pos (by omega), ← xt_hi x h2]; exact i2
      · rw [if_neg (by omega), ← xt_lo x h2]; exact i2
theorem spec_mul (k a b : Nat) (hk : 8 < k) (ha : a < 256) (hb : b < 256) : spec_l2Mul.f k (a : Int) (b : Int) = some ((gm a b : Nat) : Int) := by
  unfold spec_l2Mul.f
  rw [wr64 a (by omega), wr64 b (by omega)]
  have := spec_mul_l 8 k a 0 b hk (by omega) (by omega) ha (by omega)
  simpa [gm] using this

theorem impl_pow_l (a n : Nat) (ha : a < 256) (hn : n < 2 ^ 60) (d : Nat) : ∀ (k i : Nat), i + d = n → d + 9 < k →
    impl_power.l0 k (a : Int) ((gp a i : Nat) : Int) (n : Int) (i : Int) = some ((gp a n : Nat) : Int) := by
  induction d with
  | zero =>
    intro k i hi hk
    obtain ⟨k, rfl⟩ : ∃ m, k = m + 1 := ⟨k - 1, by omega⟩
    simp only [impl_power.l0]
    rw [if_neg (by omega), show i = n by omega]
  | succ d ih =>
    intro k i hi hk
    obtain ⟨k, rfl⟩ : ∃ m, k = m + 1 := ⟨k - 1, by omega⟩
    have e2 : wrap64 ((i : Int) + 1) = ((i + 1 : Nat) : Int) := by rw [wri _ (by omega) (by omega)]; omega
    simp only [impl_power.l0]
    rw [if_pos (by omega), impl_mul k _ _ (by omega) (gp_lt a i) ha, e2]
    simp only [Option.bind_some]
    exact ih k (i + 1) (by omega) (by omega)
theorem impl_pow (k a n : Nat) (hk : n + 9 < k) (ha : a < 256) (hn : n < 2 ^ 60) : impl_power.f k (a : Int) (n : Int) = some ((gp a n : Nat) : Int) := by
  unfold impl_power.f
  exact impl_pow_l a n ha hn n k 0 (by omega) hk

theorem spec_pow_l (a N : Nat) (ha : a < 256) (hn : N < 2 ^ 60) (d : Nat) : ∀ (k : Nat), d ≤ N → d + 9 < k →
    spec_l2Pow.l0 k (a : Int) (d : Int) ((gp a (N - d) : Nat) : Int) = some ((gp a N : Nat) : Int) := by
  induction d with
  | zero =>
    intro k hd hk
    obtain ⟨k, rfl⟩ : ∃ m, k = m + 1 := ⟨k - 1, by omega⟩
    simp only [spec_l2Pow.l0]
    rw [if_neg (by omega), Nat.sub_zero]
  | succ d ih =>
    intro k hd hk
    obtain ⟨k, rfl⟩ : ∃ m, k = m + 1 := ⟨k - 1, by omega⟩
    have e2 : wrap64 (((d + 1 : Nat) : Int) - 1) = (d : Int) := by rw [wri _ (by omega) (by omega)]; omega
    simp only [spec_l2Pow.l0]
    rw [if_pos (by omega), spec_mul k _ _ (by omega) (gp_lt a _) ha, e2]
    simp only [Option.bind_some]
    have := ih k (by omega) (by omega)
    rw [show N - d = (N - (d + 1)) + 1 by omega] at this
    exact this
theorem spec_pow (k a n : Nat) (hk : n + 9 < k) (ha : a < 256) (hn : n < 2 ^ 60) : spec_l2Pow.f k (a : Int) (n : Int) = some ((gp a n : Nat) : Int) := by
  unfold spec_l2Pow.f
  have := spec_pow_l a n ha hn n k (Nat.le_refl _) hk
  rw [Nat.sub_self] at this
  exact this

/-- a byte of a text -/
def bn (s : ByteArray) (j : Nat) : Nat := (bt s (j : Int)).toNat
theorem bn_lt (s : ByteArray) (j : Nat) : bn s j < 256 := by have := bt_range s (j : Int); unfold bn; omega
theorem bt_bn (s : ByteArray) (j : Nat) : bt s (j : Int) = ((bn s j : Nat) : Int) := by have := bt_range s (j : Int); unfold bn; omega
/-- a row of n numbers -/
def lst (n : Nat) (f : Nat → Nat) : List Int := (List.range n).map fun j => ((f j : Nat) : Int)
/-- a text of n bytes -/
def txt (n : Nat) (f : Nat → Nat) : ByteArray := strOfNums (lst n f)
theorem lst_len (n : Nat) (f : Nat → Nat) : (lst n f).length = n := by simp [lst]
theorem lst_at (n : Nat) (f : Nat → Nat) (j : Nat) (h : j < n) : (lst n f).getD j 0 = ((f j : Nat) : Int) := by simp [lst, List.getD_eq_getElem?_getD, h]
theorem lst_rd (n : Nat) (f : Nat → Nat) (j : Nat) (h : j < n) : rd (lst n f) (j : Int) = ((f j : Nat) : Int) := by unfold rd; rw [Int.toNat_natCast]; exact lst_at n f j h
theorem lst_congr {n : Nat} {f g : Nat → Nat} (h : ∀ j, j < n → f j = g j) : lst n f = lst n g := by
  unfold lst
  exact List.map_congr_left (fun j hj => by rw [h j (List.mem_range.mp hj)])
theorem lst_set (n : Nat) (f : Nat → Nat) (t : Nat) (v : Nat) (h : t < n) : (lst n f).set t ((v : Nat) : Int) = lst n (fun j => if j = t then v else f j) := by
  refine gext 0 (by rw [List.length_set, lst_len, lst_len]) (fun j hj => ?_)
  rw [List.length_set, lst_len] at hj
  rw [gset 0 _ _ _ _ (by rw [lst_len]; exact h), lst_at n (fun j => if j = t then v else f j) _ hj, lst_at _ _ _ hj]
  by_cases e : j = t
  · rw [if_pos e, if_pos e]
  · rw [if_neg e, if_neg e]
theorem lst_zero (n : Nat) : List.replicate n (0 : Int) = lst n (fun _ => 0) := by
  refine gext 0 (by rw [List.length_replicate, lst_len]) (fun j hj => ?_)
  rw [List.length_replicate] at hj
  rw [lst_at _ _ _ hj]
  simp [List.getD_eq_getElem?_getD, hj]
theorem txt_congr {n : Nat} {f g : Nat → Nat} (h : ∀ j, j < n → f j = g j) : txt n f = txt n g := by unfold txt; rw [lst_congr h]
theorem txt_size (n : Nat) (f : Nat → Nat) : (txt n f).size = n := by unfold txt; rw [strOfNums_size, lst_len]
theorem bt_strOf (xs : List Int) (j : Nat) (h : j < xs.length) (h0 : 0 ≤ xs.getD j 0) (h1 : xs.getD j 0 < 256) : bt (strOfNums xs) (j : Int) = xs.getD j 0 := by
  rw [List.getD_eq_getElem?_getD, List.getElem?_eq_getElem h] at h0 h1 ⊢
  simp only [Option.getD_some] at h0 h1 ⊢
  have hs : j < (strOfNums xs).size := by rw [strOfNums_size]; exact h
  unfold bt
  rw [dif_pos (by rw [Int.toNat_natCast]; exact hs)]
  simp only [Int.toNat_natCast]
  have e : (strOfNums xs)[j]'hs = UInt8.ofNat (xs[j]).toNat := by
    show (strOfNums xs).data[j]'hs = _
    simp [strOfNums]
  rw [e, UInt8.toNat_ofNat']
  omega
theorem bn_txt (n : Nat) (f : Nat → Nat) (j : Nat) (hj : j < n) (hf : f j < 256) : bn (txt n f) j = f j := by
  unfold bn txt
  rw [bt_strOf _ _ (by rw [lst_len]; exact hj) (by rw [lst_at _ _ _ hj]; omega) (by rw [lst_at _ _ _ hj]; omega), lst_at _ _ _ hj, Int.toNat_natCast]
theorem txt_xr (n : Nat) (p : ByteArray) (f : Nat → Nat) (hf : ∀ j, f j < 256) : (txt n fun j => bn p j ^^^ bn (txt n f) j) = txt n fun j => bn p j ^^^ f j := txt_congr (fun j hj => by show bn p j ^^^ bn (txt n f) j = _; rw [bn_txt n f j hj (hf j)])
theorem txt_gr (n c : Nat) (f : Nat → Nat) (hf : ∀ j, f j < 256) : (txt n fun j => gm c (bn (txt n f) j)) = txt n fun j => gm c (f j) := txt_congr (fun j hj => by show gm c (bn (txt n f) j) = _; rw [bn_txt n f j hj (hf j)])
theorem txt_fr (n : Nat) (g f : Nat → Nat) (hf : ∀ j, f j < 256) : (txt n fun j => g j ^^^ bn (txt n f) j) = txt n fun j => g j ^^^ f j := txt_congr (fun j hj => by show g j ^^^ bn (txt n f) j = _; rw [bn_txt n f j hj (hf j)])

theorem impl_xors (a b : ByteArray) (h : a.size ≤ b.size) (h2 : a.size ≤ 2 ^ 40) : impl_xor.f a b = some (txt a.size fun j => bn a j ^^^ bn b j) := by
  unfold impl_xor.f txt lst
  rw [if_pos ⟨h, by omega⟩]
  congr 2
  refine List.map_congr_left (fun j _ => ?_)
  rw [bt_bn, bt_bn]
  exact xor_u8 _ _ (bn_lt a j) (bn_lt b j)
theorem impl_xort (n : Nat) (f : Nat → Nat) (b : ByteArray) (hf : ∀ j, f j < 256) (h : n ≤ b.size) (h2 : n ≤ 2 ^ 40) : impl_xor.f (txt n f) b = some (txt n fun j => f j ^^^ bn b j) := by
  rw [impl_xors _ _ (by rw [txt_size]; exact h) (by rw [txt_size]; exact h2), txt_size]
  rw [txt_congr (fun j hj => by rw [bn_txt n f j hj (hf j)])]
theorem ev_weighed (s : ByteArray) (i : Nat) (hs : s.size ≤ 2 ^ 40) (hi : i < 2 ^ 40) : Ev (fun k => impl_weighed.f k s (i : Int)) (txt s.size fun j => gm (ex i) (bn s j)) := ev_of (i + 400) fun k hk => by
  unfold impl_weighed.f txt lst
  rw [if_pos (by omega), show (2 : Int) = ((2 : Nat) : Int) from rfl, impl_pow k 2 i (by omega) (by omega) (by omega), gp_two]
  simp only [Option.bind_some]
  rw [Bytes.allOf_of (f := fun j => ((gm (ex i) (bn s j) : Nat) : Int)) s.size (fun j _ => by rw [bt_bn, impl_mul k _ _ (by omega) (bn_lt s j) (ex_lt i), gm_comm _ _ (bn_lt s j) (ex_lt i)])]
  rfl

theorem even_all {xs : List ByteArray} {n : Nat} (h : even xs = true) (hn : n = (xs.getD 0 ByteArray.empty).size) : 1 ≤ xs.length ∧ xs.length ≤ 16 ∧ n ≤ 40 ∧ ∀ x ∈ xs, x.size = n := by subst hn; exact even_pos h

/-- P and Q of texts, byte by byte -/
def pP : List ByteArray → Nat → Nat
  | [], _ => 0
  | s :: l, j => bn s j ^^^ pP l j
def pQ : List ByteArray → Nat → Nat → Nat
  | [], _, _ => 0
  | s :: l, i, j => gm (ex i) (bn s j) ^^^ pQ l (i + 1) j
theorem pP_lt (l : List ByteArray) (j : Nat) : pP l j < 256 := by
  induction l with
  | nil => exact Nat.zero_lt_succ _
  | cons s l ih => exact xor_lt _ _ (bn_lt s j) ih
theorem pQ_lt (l : List ByteArray) : ∀ i j : Nat, pQ l i j < 256 := by
  induction l with
  | nil => intro i j; exact Nat.zero_lt_succ _
  | cons s l ih => intro i j; exact xor_lt _ _ (gm_lt _ _ (ex_lt i)) (ih _ _)
theorem drop_at (xs : List ByteArray) (i : Nat) (h : i < xs.length) : xs.drop i = xs.getD i ByteArray.empty :: xs.drop (i + 1) := by
  rw [List.drop_eq_getElem_cons h]; simp [List.getD_eq_getElem?_getD, h]
theorem impl_par_l (n : Nat) (hn : n ≤ 2 ^ 40) (xs : List ByteArray) (hx : ∀ x ∈ xs, x.size = n) (hl : xs.length < 2 ^ 40) (d : Nat) : ∀ (i : Nat) (f g : Nat → Nat), i + d = xs.length → (∀ j, f j < 256) → (∀ j, g j < 256) →
    Ev (fun k => impl_parities.l0 k (txt n f) (txt n g) xs (xs.length : Int) (i : Int)) (txt n fun j => f j ^^^ pP (xs.drop i) j, txt n fun j => g j ^^^ pQ (xs.drop i) i j) := by
  induction d with
  | zero =>
    intro i f g hi hf hg
    rw [List.drop_eq_nil_of_le (by omega)]
    simp only [pP, pQ, Nat.xor_zero]
    exact Ev.step (fun k => by simp only [impl_parities.l0]; rw [if_neg (by omega)]) (Ev.now _)
  | succ d ih =>
    intro i f g hi hf hg
    have hs := hx _ (gmem ByteArray.empty (show i < xs.length by omega))
    rw [drop_at xs i (by omega)]
    simp only [pP, pQ]
    refine Ev.step (fun k => by simp only [impl_parities.l0]; rw [if_pos (by omega), if_pos (by omega), if_pos (by omega), rdOf_nat, inc i (by omega)]) ?_
    refine ev_to_some (impl_xort n f _ hf (by omega) hn) (Ev.bind (ev_weighed _ i (by omega) (by omega)) ?_)
    rw [hs]
    refine ev_to_some (impl_xort n g _ hg (by rw [txt_size]; exact Nat.le_refl _) hn) ?_
    have h := ih (i + 1) (fun j => f j ^^^ bn (xs.getD i ByteArray.empty) j) (fun j => g j ^^^ gm (ex i) (bn (xs.getD i ByteArray.empty) j)) (by omega) (fun j => xor_lt _ _ (hf j) (bn_lt _ j)) (fun j => xor_lt _ _ (hg j) (gm_lt _ _ (ex_lt i)))
    simp only [Nat.xor_assoc] at h
    rw [txt_congr (f := fun j => g j ^^^ bn (txt n fun j => gm (ex i) (bn (xs.getD i ByteArray.empty) j)) j) (g := fun j => g j ^^^ gm (ex i) (bn (xs.getD i ByteArray.empty) j)) (fun j hj => by rw [bn_txt n (fun j => gm (ex i) (bn (xs.getD i ByteArray.empty) j)) j hj (gm_lt _ _ (ex_lt i))])]
    exact h
theorem impl_par {xs : List ByteArray} {n : Nat} (h : even xs = true) (hn : n = (xs.getD 0 ByteArray.empty).size) : Ev (fun k => impl_parities.f k xs) (txt n (pP xs), txt n (pQ xs 0)) := by
  have he := even_all h hn
  unfold impl_parities.f
  rw [show rdOf ByteArray.empty xs 0 = xs.getD 0 ByteArray.empty from rfl, ← hn]
  refine evp (by omega) (evp (by omega) (evp (by omega) (ev_some ?_)))
  rw [Int.toNat_natCast, lst_zero]
  have h2 := impl_par_l n (by omega) xs he.2.2.2 (by omega) xs.length 0 (fun _ => 0) (fun _ => 0) (by omega) (fun _ => by decide) (fun _ => by decide)
  simp only [Nat.zero_xor, List.drop_zero] at h2
  exact h2
theorem ev_smul (a b : Nat) (ha : a < 256) (hb : b < 256) : Ev (fun k => spec_l2Mul.f k (a : Int) (b : Int)) ((gm a b : Nat) : Int) := ev_of 20 fun k hk => spec_mul k a b (by omega) ha hb
theorem ev_smul2 (a : Nat) (ha : a < 256) : Ev (fun k => spec_l2Mul.f k (a : Int) 2) ((xt a : Nat) : Int) := by have h := ev_smul a 2 ha (by decide); rw [gm_two a ha] at h; exact h
theorem lst_mid (n : Nat) (f u : Nat → Nat) (t : Nat) : lst n (fun j => if t + 1 ≤ j then (if j = t then f t ^^^ u t else f j) ^^^ u j else if j = t then f t ^^^ u t else f j) = lst n (fun j => if t ≤ j then f j ^^^ u j else f j) := by
  refine lst_congr (fun j hj => ?_)
  by_cases h1 : j = t
  · subst h1; rw [if_neg (by omega), if_pos rfl, if_pos (Nat.le_refl _)]
  · by_cases h2 : t ≤ j
    · rw [if_pos (by omega), if_pos h2, if_neg h1]
    · rw [if_neg (by omega), if_neg h2, if_neg h1]
theorem spec_par_in (n : Nat) (hn : n ≤ 2 ^ 40) (c : Nat) (hc : c < 256) (s : ByteArray) (hs : s.size = n) (xs : List ByteArray) (L I : Int) (r : ByteArray × ByteArray) (d : Nat) : ∀ (t : Nat) (f g : Nat → Nat), t + d = n → (∀ j, f j < 256) → (∀ j, g j < 256) →
    Ev (fun k => spec_l3Parities.l0 k (lst n fun j => if t ≤ j then f j ^^^ bn s j else f j) (lst n fun j => if t ≤ j then g j ^^^ gm c (bn s j) else g j) ((xt c : Nat) : Int) xs L (wrap64 (I + 1))) r →
    Ev (fun k => spec_l3Parities.l1 k (lst n f) (lst n g) (c : Int) s xs L I (n : Int) (t : Int)) r := by
  induction d with
  | zero =>
    intro t f g ht hf hg h
    refine Ev.step (fun k => by simp only [spec_l3Parities.l1]; rw [if_neg (by omega)]) (Ev.bind (ev_smul2 c hc) ?_)
    rw [lst_congr (f := fun j => if t ≤ j then f j ^^^ bn s j else f j) (g := f) (fun j hj => if_neg (by omega)), lst_congr (f := fun j => if t ≤ j then g j ^^^ gm c (bn s j) else g j) (g := g) (fun j hj => if_neg (by omega))] at h
    exact h
  | succ d ih =>
    intro t f g ht hf hg h
    have e1 : Go.bits .xor .u8 (rd (lst n f) (t : Int)) (bt s (t : Int)) = ((f t ^^^ bn s t : Nat) : Int) := by rw [lst_rd n f t (by omega), bt_bn]; exact xor_u8 _ _ (hf t) (bn_lt s t)
    have e2 : Go.bits .xor .u8 (rd (lst n g) (t : Int)) ((gm c (bn s t) : Nat) : Int) = ((g t ^^^ gm c (bn s t) : Nat) : Int) := by rw [lst_rd n g t (by omega)]; exact xor_u8 _ _ (hg t) (gm_lt _ _ hc)
    refine Ev.step (fun k => by simp only [spec_l3Parities.l1]; rw [if_pos (by omega), if_pos (by omega), if_pos (by rw [lst_len]; omega), if_pos (by omega), if_pos (by rw [lst_len]; omega), e1, bt_bn, Int.toNat_natCast, lst_set n f t _ (by omega), inc t (by omega)]) ?_
    refine Ev.bind (ev_smul c (bn s t) hc (bn_lt s t)) ?_
    rw [e2, lst_set n g t _ (by omega)]
    refine ih (t + 1) _ _ (by omega) (fun j => ?_) (fun j => ?_) ?_
    · split
      · exact xor_lt _ _ (hf t) (bn_lt s t)
      · exact hf j
    · split
      · exact xor_lt _ _ (hg t) (gm_lt _ _ hc)
      · exact hg j
    · have ea := lst_mid n f (bn s) t
      have eb := lst_mid n g (fun j => gm c (bn s j)) t
      rw [ea, eb]
      exact h
theorem spec_par_l (n : Nat) (hn : n ≤ 2 ^ 40) (xs : List ByteArray) (hx : ∀ x ∈ xs, x.size = n) (hl : xs.length < 2 ^ 40) (d : Nat) : ∀ (i : Nat) (f g : Nat → Nat), i + d = xs.length → (∀ j, f j < 256) → (∀ j, g j < 256) →
    Ev (fun k => spec_l3Parities.l0 k (lst n f) (lst n g) ((ex i : Nat) : Int) xs (xs.length : Int) (i : Int)) (txt n fun j => f j ^^^ pP (xs.drop i) j, txt n fun j => g j ^^^ pQ (xs.drop i) i j) := by
  induction d with
  | zero =>
    intro i f g hi hf hg
    rw [List.drop_eq_nil_of_le (by omega)]
    simp only [pP, pQ, Nat.xor_zero]
    exact Ev.step (fun k => by simp only [spec_l3Parities.l0]; rw [if_neg (by omega)]; rfl) (Ev.now _)
  | succ d ih =>
    intro i f g hi hf hg
    have hs := hx _ (gmem ByteArray.empty (show i < xs.length by omega))
    rw [drop_at xs i (by omega)]
    simp only [pP, pQ]
    refine Ev.step (fun k => by simp only [spec_l3Parities.l0]; rw [if_pos (by omega), if_pos (by omega), if_pos (by omega), rdOf_nat, lst_len]) ?_
    refine spec_par_in n hn (ex i) (ex_lt i) _ hs xs _ _ _ n 0 f g (by omega) hf hg ?_
    rw [inc i (by omega)]
    have h := ih (i + 1) (fun j => f j ^^^ bn (xs.getD i ByteArray.empty) j) (fun j => g j ^^^ gm (ex i) (bn (xs.getD i ByteArray.empty) j)) (by omega) (fun j => xor_lt _ _ (hf j) (bn_lt _ j)) (fun j => xor_lt _ _ (hg j) (gm_lt _ _ (ex_lt i)))
    simp only [Nat.xor_assoc] at h
    simp only [Nat.zero_le, if_true]
    exact h
theorem spec_par {xs : List ByteArray} {n : Nat} (h : even xs = true) (hn : n = (xs.getD 0 ByteArray.empty).size) : Ev (fun k => spec_l3Parities.f k xs) (txt n (pP xs), txt n (pQ xs 0)) := by
  have he := even_all h hn
  unfold spec_l3Parities.f
  rw [show rdOf ByteArray.empty xs 0 = xs.getD 0 ByteArray.empty from rfl, ← hn]
  refine evp (by omega) (evp (by omega) (evp (by omega) ?_))
  rw [Int.toNat_natCast, lst_zero]
  have h2 := spec_par_l n (by omega) xs he.2.2.2 (by omega) xs.length 0 (fun _ => 0) (fun _ => 0) (by omega) (fun _ => by decide) (fun _ => by decide)
  simp only [Nat.zero_xor, List.drop_zero] at h2
  exact h2

theorem good_even {xs : List ByteArray} {p q : ByteArray} (h : goodS xs p q = true) : even xs = true := by
  unfold goodS at h; rw [Bool.and_eq_true] at h; exact h.1

/-- a stripe is consistent -/
def right (xs : List ByteArray) (p q : ByteArray) : Bool := decide (p.toList = (txt (xs.getD 0 ByteArray.empty).size (pP xs)).toList) && decide (q.toList = (txt (xs.getD 0 ByteArray.empty).size (pQ xs 0)).toList)
theorem beq_dec (a b : List UInt8) : (a == b) = decide (a = b) := by
  by_cases h : a = b
  · subst h; rw [beq_self_eq_true, decide_eq_true rfl]
  · rw [decide_eq_false h, beq_eq_false_iff_ne.mpr h]
theorem spec_right {xs : List ByteArray} (p q : ByteArray) (h : even xs = true) : Ev (fun k => spec_l3Right.f k xs p q) (right xs p q) := by
  unfold spec_l3Right.f right
  refine Ev.bind (spec_par h rfl) ?_
  by_cases hp : p.toList = (txt (xs.getD 0 ByteArray.empty).size (pP xs)).toList
  · refine evp hp.symm ?_
    rw [decide_eq_true hp, Bool.true_and, beq_dec, show decide ((txt (xs.getD 0 ByteArray.empty).size (pQ xs 0)).toList = q.toList) = decide (q.toList = (txt (xs.getD 0 ByteArray.empty).size (pQ xs 0)).toList) from decide_eq_decide.mpr eq_comm]
    exact Ev.now _
  · refine evn (fun e => hp e.symm) ?_
    rw [decide_eq_false hp]; exact Ev.now _
theorem impl_right {xs : List ByteArray} (p q : ByteArray) (h : even xs = true) : Ev (fun k => impl_isConsistent.f k xs p q) (right xs p q) := by
  unfold impl_isConsistent.f right
  refine Ev.bind (impl_par h rfl) ?_
  by_cases hp : p.toList = (txt (xs.getD 0 ByteArray.empty).size (pP xs)).toList
  · refine evp hp ?_
    rw [decide_eq_true hp, Bool.true_and, beq_dec]
    exact Ev.now _
  · refine evn hp ?_
    rw [decide_eq_false hp]; exact Ev.now _

theorem isDisk (xs : List ByteArray) (p q : ByteArray) (a : Int) (hx : xs.length < 2 ^ 40) : impl_isDisk.f xs p q a = some (goodS xs p q && decide (a ≥ 0 ∧ a ≤ (xs.length : Int) + 1)) := by
  have w1 : wrap64 ((xs.length : Int) + 1) = (xs.length : Int) + 1 := by unfold wrap64; omega
  unfold impl_isDisk.f
  rw [impl_good]
  cases hg : goodS xs p q with
  | false => rfl
  | true =>
    simp only [Option.bind_some, if_true, Bool.true_and]
    rw [within_tells, w1]
    rfl

theorem clone (xs : List ByteArray) (hl : xs.length < 2 ^ 40) : slices_Clone_string_string.f xs = some xs := by unfold slices_Clone_string_string.f; rw [if_pos (by omega)]

theorem own (xs : List ByteArray) (p q : ByteArray) (hl : xs.length < 2 ^ 40) : spec_l3Own.f xs p q = some (xs, p, q) := by
  unfold spec_l3Own.f
  simp only [Option.bind_some, List.nil_append, List.length_nil]
  rw [if_pos (by omega)]
theorem good_all {xs : List ByteArray} {p q : ByteArray} {n : Nat} (h : goodS xs p q = true) (hn : n = (xs.getD 0 ByteArray.empty).size) : p.size = n ∧ q.size = n ∧ 1 ≤ xs.length ∧ xs.length ≤ 16 ∧ n ≤ 40 ∧ ∀ x ∈ xs, x.size = n := by
  have he := even_all (good_even h) hn
  unfold goodS at h
  rw [Bool.and_eq_true, Bool.and_eq_true] at h
  have h1 := of_decide_eq_true h.2.1
  have h2 := of_decide_eq_true h.2.2
  exact ⟨by rw [hn]; exact h1, by rw [hn]; exact h2, he⟩
theorem spec_xors (a b : ByteArray) (h : a.size ≤ b.size) (h2 : a.size ≤ 2 ^ 40) : spec_l3Xor.f a b = some (txt a.size fun j => bn a j ^^^ bn b j) := impl_xors a b h h2
theorem spec_xort (n : Nat) (f : Nat → Nat) (b : ByteArray) (hf : ∀ j, f j < 256) (h : n ≤ b.size) (h2 : n ≤ 2 ^ 40) : spec_l3Xor.f (txt n f) b = some (txt n fun j => f j ^^^ bn b j) := impl_xort n f b hf h h2

theorem ev_times (c : Nat) (hc : c < 256) (s : ByteArray) (hs : s.size ≤ 2 ^ 40) : Ev (fun k => spec_l3Times.f k (c : Int) s) (txt s.size fun j => gm c (bn s j)) := ev_of 400 fun k hk => by
  unfold spec_l3Times.f txt lst
  rw [if_pos (by omega), Bytes.allOf_of (f := fun j => ((gm c (bn s j) : Nat) : Int)) s.size (fun j _ => by rw [bt_bn, spec_mul k _ _ (by omega) hc (bn_lt s j)])]
  rfl
theorem ev_pow2 (i : Nat) (hi : i < 2 ^ 40) : Ev (fun k => spec_l2Pow.f k 2 (i : Int)) ((ex i : Nat) : Int) := ev_of (i + 40) fun k hk => by
  rw [show (2 : Int) = ((2 : Nat) : Int) from rfl, spec_pow k 2 i (by omega) (by omega) (by omega), gp_two]

/-- a disk's text is blanked -/
def zer (n : Nat) : ByteArray := txt n fun _ => 0
def blank (xs : List ByteArray) (n l : Nat) : List ByteArray := if l < xs.length then xs.set l (zer n) else xs
theorem blank_len (xs : List ByteArray) (n l : Nat) : (blank xs n l).length = xs.length := by unfold blank; split <;> simp
theorem zeros (n : Nat) : strOfNums (List.replicate n 0) = zer n := by rw [lst_zero]; rfl
theorem wo_nil (xs : List ByteArray) (p q : ByteArray) (hl : xs.length < 2 ^ 40) : Ev (fun k => impl_without.f k xs p q ([] : List Int)) (xs, p, q) := by
  unfold impl_without.f
  refine ev_to_some (clone xs hl) ?_
  exact Ev.step (fun k => by simp only [impl_without.l0]; rw [if_neg (by simp)]) (Ev.now _)
/-- one step of the loop over the disks -/
theorem wo_step (xs : List ByteArray) (p q : ByteArray) (L : List Int) (i l : Nat) (ys : List ByteArray) (r : List ByteArray × ByteArray × ByteArray) (hL : L.length < 2 ^ 40) (hi : i < L.length) (hl : rd L (i : Int) = (l : Int)) (hp : p.size < 2 ^ 40) (hys : ys.length = xs.length)
    (h : Ev (fun k => impl_without.l0 k L (L.length : Int) ((i + 1 : Nat) : Int) xs p q (blank ys p.size l) p q) r) : Ev (fun k => impl_without.l0 k L (L.length : Int) (i : Int) xs p q ys p q) r := by
  by_cases hlt : l < xs.length
  · refine Ev.step (fun k => ?_) h
    simp only [impl_without.l0]
    rw [if_pos (by omega), if_pos (by omega), if_pos (by omega), hl, if_pos (by omega), if_pos (by omega), if_pos (by omega), if_pos (by omega), if_pos (by omega), Int.toNat_natCast, Int.toNat_natCast, zeros, inc i (by omega)]
    unfold blank
    rw [if_pos (by omega)]
  · refine Ev.step (fun k => ?_) h
    simp only [impl_without.l0]
    rw [if_pos (by omega), if_pos (by omega), if_pos (by omega), hl, if_neg (by omega), inc i (by omega)]
    unfold blank
    rw [if_neg (by omega)]
theorem wo_end (xs : List ByteArray) (p q : ByteArray) (L : List Int) (i : Nat) (ys : List ByteArray) (hi : i = L.length) : Ev (fun k => impl_without.l0 k L (L.length : Int) (i : Int) xs p q ys p q) (ys, p, q) := by
  subst hi
  exact Ev.step (fun k => by simp only [impl_without.l0]; rw [if_neg (by omega)]) (Ev.now _)
theorem wo_one (xs : List ByteArray) (p q : ByteArray) (l : Nat) (hl : xs.length < 2 ^ 40) (hp : p.size < 2 ^ 40) : Ev (fun k => impl_without.f k xs p q ([(l : Int)] : List Int)) (blank xs p.size l, p, q) := by
  unfold impl_without.f
  refine ev_to_some (clone xs hl) ?_
  exact wo_step xs p q [(l : Int)] 0 l xs _ (by simp) (by simp) rfl hp rfl (wo_end xs p q [(l : Int)] 1 _ rfl)

theorem even_of {xs : List ByteArray} {n : Nat} (h1 : 1 ≤ xs.length) (h2 : xs.length ≤ 16) (h3 : n ≤ 40) (h4 : ∀ x ∈ xs, x.size = n) : even xs = true ∧ n = (xs.getD 0 ByteArray.empty).size := by
  have h0 : (xs.getD 0 ByteArray.empty).size = n := h4 _ (gmem ByteArray.empty (by omega))
  refine ⟨?_, h0.symm⟩
  unfold even
  rw [Bool.and_eq_true, Bool.and_eq_true]
  refine ⟨decide_eq_true ⟨h1, h2⟩, decide_eq_true (by omega), ?_⟩
  rw [Bool.not_eq_true', List.any_eq_false]
  intro x hx
  rw [h4 x hx, h0]
  simp
theorem blank_all {xs : List ByteArray} {n : Nat} (l : Nat) (h4 : ∀ x ∈ xs, x.size = n) : ∀ x ∈ blank xs n l, x.size = n := by
  intro x hx
  unfold blank at hx
  split at hx
  · rcases List.mem_or_eq_of_mem_set hx with h | h
    · exact h4 x h
    · rw [h]; exact txt_size _ _
  · exact h4 x hx
/-- one disk brought back -/
def one (xs : List ByteArray) (p q : ByteArray) (n l : Nat) : List ByteArray × ByteArray × ByteArray :=
  if l < xs.length then ((blank xs n l).set l (txt n fun j => pP (blank xs n l) j ^^^ bn p j), p, q)
  else if l = xs.length then (blank xs n l, txt n (pP (blank xs n l)), q) else (blank xs n l, p, txt n (pQ (blank xs n l) 0))

section
variable {xs : List ByteArray} {n : Nat} (h1 : 1 ≤ xs.length) (h2 : xs.length ≤ 16) (h3 : n ≤ 40) (h4 : ∀ x ∈ xs, x.size = n)
include h1 h2 h3 h4
theorem impl_one (p q : ByteArray) (l : Nat) (hp : p.size = n) (hl : l ≤ xs.length + 1) : Ev (fun k => impl_recoverOne.f k xs p q (l : Int)) (one xs p q n l) := by
  obtain ⟨he, hn⟩ := even_of (xs := blank xs n l) (by rw [blank_len]; exact h1) (by rw [blank_len]; exact h2) h3 (blank_all l h4)
  have hw := wo_one xs p q l (by omega) (by omega)
  rw [hp] at hw
  unfold impl_recoverOne.f one
  refine Ev.bind hw (Ev.bind (impl_par he hn) ?_)
  have w1 : wrap64 ((l : Int) - (xs.length : Int)) = (l : Int) - (xs.length : Int) := by unfold wrap64; omega
  rw [w1]
  by_cases c1 : l < xs.length
  · rw [if_pos c1]
    refine evn (by omega) (evn (by omega) (ev_to_some (impl_xort n _ p (pP_lt _) (by omega) (by omega)) (evp (by omega) (evp (by rw [blank_len]; omega) ?_))))
    rw [Int.toNat_natCast]
    exact Ev.now _
  · rw [if_neg c1]
    by_cases c2 : l = xs.length
    · rw [if_pos c2]
      exact evp (by omega) (Ev.now _)
    · rw [if_neg c2]
      exact evn (by omega) (evp (by omega) (Ev.now _))
end

section
variable {xs : List ByteArray} {n : Nat} (h1 : 1 ≤ xs.length) (h2 : xs.length ≤ 16) (h3 : n ≤ 40) (h4 : ∀ x ∈ xs, x.size = n)
include h1 h2 h3 h4
theorem spec_one (p q : ByteArray) (l : Nat) (hp : p.size = n) (hq : q.size ≤ 2 ^ 40) (hl : l ≤ xs.length + 1) : Ev (fun k => spec_l3One.f k xs p q (l : Int)) (one xs p q n l) := by
  obtain ⟨he, hn⟩ := even_of (xs := blank xs n l) (by rw [blank_len]; exact h1) (by rw [blank_len]; exact h2) h3 (blank_all l h4)
  have hz : ∀ m : Nat, m ≤ 2 ^ 40 → spec_l1Zeros.f (m : Int) = some (zer m) := fun m hm => by
    unfold spec_l1Zeros.f
    rw [if_pos (by omega), if_pos (by omega), Int.toNat_natCast, zeros]
  unfold spec_l3One.f one
  by_cases c1 : l < xs.length
  · have hb : spec_l3Blank.f xs p q (l : Int) = some (blank xs n l, p, q) := by
      unfold spec_l3Blank.f
      rw [own xs p q (by omega)]
      simp only [Option.bind_some]
      rw [if_pos (by omega), hz p.size (by omega)]
      simp only [Option.bind_some]
      rw [if_pos (by omega), Int.toNat_natCast, hp]
      unfold blank
      rw [if_pos c1]
    rw [if_pos c1]
    refine ev_to_some hb (Ev.bind (spec_par he hn) (evp (by rw [blank_len]; omega) (ev_to_some (spec_xort n _ p (pP_lt _) (by omega) (by omega)) (evp (by omega) ?_))))
    rw [Int.toNat_natCast]
    exact Ev.now _
  · have hbl : blank xs n l = xs := by unfold blank; rw [if_neg c1]
    rw [if_neg c1]
    by_cases c2 : l = xs.length
    · have hb : spec_l3Blank.f xs p q (l : Int) = some (blank xs n l, zer n, q) := by
        unfold spec_l3Blank.f
        rw [own xs p q (by omega)]
        simp only [Option.bind_some]
        rw [if_neg (by omega), if_pos (by omega), hz p.size (by omega), hp, hbl]
        rfl
      rw [if_pos c2]
      exact ev_to_some hb (Ev.bind (spec_par he hn) (evn (by rw [blank_len]; omega) (evp (by rw [blank_len]; omega) (Ev.now _))))
    · have hb : spec_l3Blank.f xs p q (l : Int) = some (blank xs n l, p, zer q.size) := by
        unfold spec_l3Blank.f
        rw [own xs p q (by omega)]
        simp only [Option.bind_some]
        rw [if_neg (by omega), if_neg (by omega), hz q.size (by omega), hbl]
        rfl
      rw [if_neg c2]
      exact ev_to_some hb (Ev.bind (spec_par he hn) (evn (by rw [blank_len]; omega) (evn (by rw [blank_len]; omega) (Ev.now _))))
end

/-! ### The cursor that draws -/
theorem cur_wraps (n : Int) (h₀ : 0 ≤ n) (h₁ : n < 2 ^ 64) : IntKind.u64.wrap n = n := by rw [IntKind.wrap_u64]; omega
theorem cur_and (y : Int) (h0 : 0 ≤ y) (h1 : y < 2 ^ 64) : Go.bits .and .u64 y 255 = y % 256 := bits_mask .u64 64 (by decide) cur_wraps 8 (by decide) y h0 h1
theorem cur_byte (u : Int) : ∃ b : Int, wrap64 (Go.bits .and .u64 ((IntKind.u64.wrap u) / 1099511627776) 255) = b ∧ 0 ≤ b ∧ b ≤ 255 := by
  refine ⟨_, rfl, ?_⟩
  have h := IntKind.wrap_u64 u
  generalize IntKind.u64.wrap u = v at h
  have hv : 0 ≤ v ∧ v < 2 ^ 64 := by omega
  clear h
  obtain ⟨y, hy⟩ : ∃ y, y = v / 1099511627776 := ⟨_, rfl⟩
  rw [← hy, cur_and y (by omega) (by omega)]
  clear hv
  unfold wrap64
  omega
theorem cur_rd (xs : List Int) (hb : ∀ x ∈ xs, (Lit.int .u8 x).wf = true) (i : Int) (h0 : 0 ≤ i) (h1 : i < (xs.length : Int)) : 0 ≤ rd xs i ∧ rd xs i ≤ 255 := by
  have hm : rd xs i ∈ xs := by
    unfold rd
    rw [List.getD_eq_getElem?_getD, List.getElem?_eq_getElem (show i.toNat < xs.length by omega)]
    simp
  have := bounds_u8 (hb _ hm)
  omega
section
variable (xs : List Int) (hb : ∀ x ∈ xs, (Lit.int .u8 x).wf = true)
include hb
theorem cur_next (a s n : Int) (h0 : 0 ≤ a) (h1 : a ≤ n) (hn : n < 2 ^ 60) : ∃ b a' s', spec_l1Cur_next.f xs a s = some (b, a', s') ∧ 0 ≤ b ∧ b ≤ 255 ∧ 0 ≤ a' ∧ a' ≤ n + 1 := by
  have hw : wrap64 (a + 1) = a + 1 := by unfold wrap64; omega
  unfold spec_l1Cur_next.f
  rw [hw]
  by_cases c1 : a < (xs.length : Int)
  · have hr := cur_rd xs hb a h0 c1
    rw [if_pos c1, if_pos h0]
    have hr2 : wrap64 (rd xs a) = rd xs a := by unfold wrap64; omega
    rw [hr2]
    by_cases c2 : a + 1 ≤ (xs.length : Int)
    · rw [if_pos c2]; exact ⟨_, _, _, rfl, hr.1, hr.2, by omega, by omega⟩
    · omega
  · rw [if_neg c1, if_neg (by omega)]
    obtain ⟨b, hb1, hb2, hb3⟩ := cur_byte ((IntKind.u64.wrap ((IntKind.u64.wrap (s * 6364136223846793005)) + 0)) + 1442695040888963407)
    rw [hb1]
    exact ⟨_, _, _, rfl, hb2, hb3, by omega, by omega⟩
theorem cur_pick (a s n m : Int) (h0 : 0 ≤ a) (h1 : a ≤ n) (hn : n < 2 ^ 59) (hm : m < 2 ^ 40) : ∃ b a' s', spec_l1Cur_pick.f xs a s m = some (b, a', s') ∧ 0 ≤ b ∧ (b < m ∨ b = 0) ∧ 0 ≤ a' ∧ a' ≤ n + 2 := by
  unfold spec_l1Cur_pick.f
  by_cases c1 : m ≤ 1
  · rw [if_pos c1]; exact ⟨0, a, s, rfl, by omega, .inr rfl, h0, by omega⟩
  · obtain ⟨b, a1, s1, e1, b0, b1, p0, p1⟩ := cur_next xs hb a s n h0 h1 (by omega)
    rw [if_neg c1, e1]
    simp only [Option.bind_some]
    by_cases c2 : m > 200
    · obtain ⟨b2, a2, s2, e2, q0, q1, r0, r1⟩ := cur_next xs hb a1 s1 (n + 1) p0 p1 (by omega)
      rw [if_pos c2, e2]
      simp only [Option.bind_some]
      rw [if_neg (by omega)]
      have hw : wrap64 ((wrap64 (b * 256)) + b2) = b * 256 + b2 := by unfold wrap64; omega
      rw [hw, Int.tmod_eq_emod_of_nonneg (by omega)]
      have h1 := Int.emod_nonneg (b * 256 + b2) (show m ≠ 0 by omega)
      have h2 := Int.emod_lt_of_pos (b * 256 + b2) (show 0 < m by omega)
      exact ⟨_, _, _, rfl, h1, .inl h2, r0, by omega⟩
    · rw [if_neg c2, if_neg (by omega), Int.tmod_eq_emod_of_nonneg (by omega)]
      have h1 := Int.emod_nonneg b (show m ≠ 0 by omega)
      have h2 := Int.emod_lt_of_pos b (show 0 < m by omega)
      exact ⟨_, _, _, rfl, h1, .inl h2, p0, by omega⟩
end

section
variable (xs : List Int) (hb : ∀ x ∈ xs, (Lit.int .u8 x).wf = true)
include hb
theorem cur_among (a s n : Int) (L : List Int) (hL : 0 < L.length) (hL2 : L.length < 2 ^ 39) (h0 : 0 ≤ a) (h1 : a ≤ n) (hn : n < 2 ^ 59) : ∃ b a' s', spec_l1Cur_among.f xs a s L = some (b, a', s') ∧ b ∈ L ∧ 0 ≤ a' ∧ a' ≤ n + 2 := by
  obtain ⟨i, a1, s1, e1, i0, i1, p0, p1⟩ := cur_pick xs hb a s n (L.length : Int) h0 h1 hn (by omega)
  unfold spec_l1Cur_among.f
  rw [e1]
  simp only [Option.bind_some]
  rw [if_pos i0, if_pos (by omega)]
  refine ⟨_, _, _, rfl, ?_, p0, p1⟩
  unfold rd
  rw [List.getD_eq_getElem?_getD, List.getElem?_eq_getElem (show i.toNat < L.length by omega)]
  simp
end

section
variable (xs : List Int) (hb : ∀ x ∈ xs, (Lit.int .u8 x).wf = true)
include hb
theorem cur_one (a s n m : Int) (h0 : 0 ≤ a) (h1 : a ≤ n) (hn : n < 2 ^ 59) (hm : m < 2 ^ 40) : ∃ b a' s', spec_l1Cur_one.f xs a s m = some (b, a', s') ∧ 0 ≤ a' ∧ a' ≤ n + 2 := by
  obtain ⟨i, a1, s1, e1, i0, i1, p0, p1⟩ := cur_pick xs hb a s n m h0 h1 hn hm
  unfold spec_l1Cur_one.f
  rw [e1]
  exact ⟨_, _, _, rfl, p0, p1⟩
end

set_option linter.unusedSectionVars false
/-! ### Stripes, byte by byte: equal texts, what an update does -/
theorem tl_iff (s t : ByteArray) : s.toList = t.toList ↔ s = t := by
  rw [ByteArray.toList_eq, ByteArray.toList_eq]
  exact ⟨fun h => ByteArray.ext (Array.toList_inj.mp h), fun h => by rw [h]⟩
theorem bn_ext {s t : ByteArray} (h : s.size = t.size) (hj : ∀ j, j < s.size → bn s j = bn t j) : s = t := by
  refine ByteArray.ext (Array.ext h (fun j h1 h2 => ?_))
  have h1' : j < s.size := h1
  have h2' : j < t.size := h2
  have := hj j h1'
  unfold bn bt at this
  rw [Int.toNat_natCast] at this
  rw [dif_pos h1', dif_pos h2'] at this
  have h3 : s[j].toNat = t[j].toNat := by simpa using this
  exact UInt8.toNat_inj.mp h3
theorem txt_iff {p : ByteArray} {n : Nat} {f : Nat → Nat} (hp : p.size = n) (hf : ∀ j, f j < 256) : p.toList = (txt n f).toList ↔ ∀ j, j < n → bn p j = f j := by
  rw [tl_iff]
  constructor
  · intro h j hj
    rw [h, bn_txt n f j hj (hf j)]
  · intro h
    refine bn_ext (by rw [txt_size]; exact hp) (fun j hj => ?_)
    rw [bn_txt n f j (by omega) (hf j)]
    exact h j (by omega)
theorem xor3 (a b c : Nat) : c ^^^ b = (a ^^^ b) ^^^ (a ^^^ c) := by
  apply Nat.eq_of_testBit_eq
  intro i
  simp only [Nat.testBit_xor]
  cases a.testBit i <;> cases b.testBit i <;> cases c.testBit i <;> rfl
theorem xor_can (a b c : Nat) : a ^^^ c = b ^^^ c ↔ a = b := by
  constructor
  · intro h
    have h2 := congrArg (fun x => x ^^^ c) h
    simpa [Nat.xor_assoc] using h2
  · rintro rfl; rfl
theorem pP_set (j : Nat) (d : ByteArray) : ∀ (xs : List ByteArray) (l : Nat), l < xs.length → pP (xs.set l d) j = pP xs j ^^^ (bn (xs.getD l ByteArray.empty) j ^^^ bn d j)
  | [], l, h => by simp at h
  | s :: xs, 0, _ => by
    show bn d j ^^^ pP xs j = (bn s j ^^^ pP xs j) ^^^ (bn s j ^^^ bn d j)
    exact xor3 _ _ _
  | s :: xs, l + 1, h => by
    have ih := pP_set j d xs l (by simpa using h)
    show bn s j ^^^ pP (xs.set l d) j = (bn s j ^^^ pP xs j) ^^^ (bn (xs.getD l ByteArray.empty) j ^^^ bn d j)
    rw [ih, Nat.xor_assoc]
theorem pQ_set (j : Nat) (d : ByteArray) : ∀ (xs : List ByteArray) (l i : Nat), l < xs.length → pQ (xs.set l d) i j = pQ xs i j ^^^ gm (ex (i + l)) (bn (xs.getD l ByteArray.empty) j ^^^ bn d j)
  | [], l, i, h => by simp at h
  | s :: xs, 0, i, _ => by
    show gm (ex i) (bn d j) ^^^ pQ xs (i + 1) j = (gm (ex i) (bn s j) ^^^ pQ xs (i + 1) j) ^^^ gm (ex i) (bn s j ^^^ bn d j)
    rw [gm_right]
    exact xor3 _ _ _
  | s :: xs, l + 1, i, h => by
    have ih := pQ_set j d xs l (i + 1) (by simpa using h)
    show gm (ex i) (bn s j) ^^^ pQ (xs.set l d) (i + 1) j = (gm (ex i) (bn s j) ^^^ pQ xs (i + 1) j) ^^^ gm (ex (i + (l + 1))) (bn (xs.getD l ByteArray.empty) j ^^^ bn d j)
    rw [ih, Nat.xor_assoc, show i + 1 + l = i + (l + 1) by omega]
theorem even_sizes {xs : List ByteArray} {n : Nat} (he : even xs = true) (hn : (xs.getD 0 ByteArray.empty).size = n) : 1 ≤ xs.length ∧ xs.length ≤ 16 ∧ n ≤ 40 ∧ ∀ x ∈ xs, x.size = n := even_all he hn.symm
theorem even_set {xs : List ByteArray} {n : Nat} (he : even xs = true) (hn : (xs.getD 0 ByteArray.empty).size = n) (l : Nat) (d : ByteArray) (hd : d.size = n) : even (xs.set l d) = true ∧ ((xs.set l d).getD 0 ByteArray.empty).size = n := by
  obtain ⟨h1, h2, h3, h4⟩ := even_sizes he hn
  have := even_of (xs := xs.set l d) (n := n) (by rw [List.length_set]; exact h1) (by rw [List.length_set]; exact h2) h3 (fun x hx => by
    rcases List.mem_or_eq_of_mem_set hx with h | h
    · exact h4 x h
    · rw [h]; exact hd)
  exact ⟨this.1, this.2.symm⟩
theorem bt_p (p o d : ByteArray) (n j : Nat) (hj : j < n) : bn (txt n fun j => bn p j ^^^ (bn o j ^^^ bn d j)) j = bn p j ^^^ (bn o j ^^^ bn d j) := bn_txt n (fun j => bn p j ^^^ (bn o j ^^^ bn d j)) j hj (xor_lt _ _ (bn_lt p j) (xor_lt _ _ (bn_lt o j) (bn_lt d j)))
theorem bt_q (q o d : ByteArray) (n l j : Nat) (hj : j < n) : bn (txt n fun j => bn q j ^^^ gm (ex l) (bn o j ^^^ bn d j)) j = bn q j ^^^ gm (ex l) (bn o j ^^^ bn d j) := bn_txt n (fun j => bn q j ^^^ gm (ex l) (bn o j ^^^ bn d j)) j hj (xor_lt _ _ (bn_lt q j) (gm_lt _ _ (ex_lt l)))
theorem right_upd {xs : List ByteArray} {p q d : ByteArray} {n l : Nat} (he : even xs = true) (hn : (xs.getD 0 ByteArray.empty).size = n) (hp : p.size = n) (hq : q.size = n) (hd : d.size = n) (hl : l < xs.length) :
    right (xs.set l d) (txt n fun j => bn p j ^^^ (bn (xs.getD l ByteArray.empty) j ^^^ bn d j)) (txt n fun j => bn q j ^^^ gm (ex l) (bn (xs.getD l ByteArray.empty) j ^^^ bn d j)) = right xs p q := by
  have h2 := (even_set he hn l d hd).2
  unfold right
  rw [h2, hn]
  congr 1
  · rw [decide_eq_decide, txt_iff (txt_size _ _) (pP_lt _), txt_iff hp (pP_lt _)]
    constructor
    · intro h j hj
      have := h j hj
      rw [bt_p _ _ _ n j hj, pP_set j d xs l hl] at this
      exact (xor_can _ _ _).mp this
    · intro h j hj
      rw [bt_p _ _ _ n j hj, pP_set j d xs l hl, h j hj]
  · rw [decide_eq_decide, txt_iff (txt_size _ _) (fun j => pQ_lt _ _ j), txt_iff hq (fun j => pQ_lt _ _ j)]
    constructor
    · intro h j hj
      have := h j hj
      rw [bt_q _ _ _ n l j hj, pQ_set j d xs l 0 hl, Nat.zero_add] at this
      exact (xor_can _ _ _).mp this
    · intro h j hj
      rw [bt_q _ _ _ n l j hj, pQ_set j d xs l 0 hl, Nat.zero_add, h j hj]
theorem good_mk {xs : List ByteArray} {p q : ByteArray} {n : Nat} (he : even xs = true) (hn : (xs.getD 0 ByteArray.empty).size = n) (hp : p.size = n) (hq : q.size = n) : goodS xs p q = true := by
  unfold goodS
  rw [he, hn, decide_eq_true hp, decide_eq_true hq]
  rfl
/-! ### Same stripes -/
theorem same_texts_l (xs : List ByteArray) (hl : xs.length < 2 ^ 40) (d : Nat) : ∀ i : Nat, i + d = xs.length → Ev (fun k => laws_sameTexts.l0 k xs xs (xs.length : Int) (i : Int)) true := by
  induction d with
  | zero => intro i hi; exact Ev.step (fun k => by simp only [laws_sameTexts.l0]; rw [if_neg (by omega)]) (Ev.now _)
  | succ d ih =>
    intro i hi
    exact Ev.step (fun k => by simp only [laws_sameTexts.l0, if_true]; rw [if_pos (by omega), if_pos (by omega), if_pos (by omega), if_pos (by omega), inc i (by omega)]) (ih (i + 1) (by omega))
theorem same_stripes (xs : List ByteArray) (p q : ByteArray) (hl : xs.length < 2 ^ 40) : Ev (fun k => laws_sameStripes.f k xs p q xs p q) true := by
  unfold laws_sameStripes.f laws_sameTexts.f
  exact evp rfl (evp rfl (Ev.bind (evp rfl (same_texts_l xs hl xs.length 0 (by omega))) (Ev.now _)))
theorem check_i (xs : List ByteArray) (p q : ByteArray) : Ev (fun k => impl_CheckStripe.f k xs p q) (if goodS xs p q = true then (right xs p q, true) else (false, false)) := by
  unfold impl_CheckStripe.f
  refine ev_to_some (impl_good xs p q) ?_
  cases hg : goodS xs p q with
  | false => exact evn (by decide) (Ev.now _)
  | true => exact evp rfl (Ev.bind (impl_right p q (good_even hg)) (Ev.now _))
theorem make_i {xs : List ByteArray} {n : Nat} (he : even xs = true) (hn : (xs.getD 0 ByteArray.empty).size = n) : Ev (fun k => impl_MakeStripe.f k xs) (xs, txt n (pP xs), txt n (pQ xs 0), true) := by
  unfold impl_MakeStripe.f
  refine ev_to_some (areEqual xs) ?_
  rw [he]
  have h := (even_sizes he hn).2.1
  exact evp rfl (Ev.bind (impl_par he hn.symm) (ev_to_some (clone xs (by omega)) (Ev.now _)))
theorem make_s (xs : List ByteArray) (hx : xs.length < 2 ^ 40) : Ev (fun k => spec_MakeStripe.f k xs) (if even xs = true then (xs, txt (xs.getD 0 ByteArray.empty).size (pP xs), txt (xs.getD 0 ByteArray.empty).size (pQ xs 0), true) else ([], (⟨#[]⟩ : ByteArray), (⟨#[]⟩ : ByteArray), false)) := by
  unfold spec_MakeStripe.f
  refine Ev.bind (l3data xs hx) ?_
  cases he : even xs with
  | false => exact evn (by decide) (Ev.now _)
  | true =>
    refine evp rfl (Ev.bind (spec_par he rfl) (ev_some (evp (by simp only [List.length_nil]; omega) ?_)))
    exact Ev.now _

/-! ### Stripes that are drawn -/
section
variable (cs : List Int) (hb : ∀ x ∈ cs, (Lit.int .u8 x).wf = true)
include hb
theorem d_text_l (m : Nat) (hm : m < 2 ^ 40) (N : Int) (hN : N < 2 ^ 50) (d : Nat) : ∀ (i : Nat) (ys : List Int) (a s : Int), i + d = m → ys.length = m → 0 ≤ a → a ≤ N + 2 * (i : Int) →
    ∃ t a' s', Ev (fun k => spec_l1Cur_text.l0 k ys (m : Int) (i : Int) cs a s) (t, a', s') ∧ t.size = m ∧ 0 ≤ a' ∧ a' ≤ N + 2 * (m : Int) := by
  induction d with
  | zero =>
    intro i ys a s hi hy h0 h1
    exact ⟨strOfNums ys, a, s, Ev.step (fun k => by simp only [spec_l1Cur_text.l0]; rw [if_neg (by omega)]) (Ev.now _), by rw [strOfNums_size]; exact hy, h0, by omega⟩
  | succ d ih =>
    intro i ys a s hi hy h0 h1
    obtain ⟨b, a1, s1, e1, b0, b1, p0, p1⟩ := cur_pick cs hb a s (N + 2 * (i : Int)) 256 h0 h1 (by omega) (by omega)
    obtain ⟨t, a2, s2, h, ht, q0, q1⟩ := ih (i + 1) (ys.set i (b % 256)) a1 s1 (by omega) (by rw [List.length_set]; exact hy) p0 (by omega)
    refine ⟨t, a2, s2, Ev.step (fun k => ?_) h, ht, q0, q1⟩
    simp only [spec_l1Cur_text.l0]
    rw [if_pos (by omega), e1]
    simp only [Option.bind_some]
    rw [if_pos (by omega), if_pos (by omega), Int.toNat_natCast, inc i (by omega)]
theorem d_text (m : Nat) (hm : m < 2 ^ 40) (N a s : Int) (hN : N < 2 ^ 50) (h0 : 0 ≤ a) (h1 : a ≤ N) : ∃ t a' s', Ev (fun k => spec_l1Cur_text.f k cs a s (m : Int)) (t, a', s') ∧ t.size = m ∧ 0 ≤ a' ∧ a' ≤ N + 2 * (m : Int) := by
  obtain ⟨t, a2, s2, h, ht, q0, q1⟩ := d_text_l cs hb m hm N hN m 0 (List.replicate m 0) a s (by omega) (by simp) h0 (by omega)
  refine ⟨t, a2, s2, ?_, ht, q0, q1⟩
  unfold spec_l1Cur_text.f
  refine evp (by omega) (evp (by omega) ?_)
  rw [Int.toNat_natCast]
  refine ev_some ?_
  rw [List.length_replicate]
  exact h
theorem d_data_l (m : Nat) (hm : m ≤ 41) (d : Nat) : ∀ (L : List ByteArray) (N a s : Int), d ≤ 20 → L.length + d ≤ 40 → N + 90 * (d : Int) < 2 ^ 49 → 0 ≤ a → a ≤ N → (∀ x ∈ L, x.size ≤ 41) →
    ∃ L' a' s', Ev (fun k => spec_l1Cur_data.l0 k (m : Int) L (d : Int) cs a s) (L', a', s') ∧ L'.length ≤ 40 ∧ 0 ≤ a' ∧ a' ≤ N + 90 * (d : Int) + 2 ∧ ∀ x ∈ L', x.size ≤ 42 := by
  induction d with
  | zero =>
    intro L N a s _ hL hN h0 h1 hs
    by_cases hl : (L.length : Int) > 0
    · obtain ⟨o, a1, s1, e1, p0, p1⟩ := cur_one cs hb a s N 30 h0 h1 (by omega) (by omega)
      cases o with
      | false => exact ⟨L, a1, s1, Ev.step (fun k => by simp only [spec_l1Cur_data.l0]; rw [if_neg (by omega), if_pos hl, e1]; simp only [Option.bind_some]; rw [if_neg (by decide)]) (Ev.now _), by omega, p0, by omega, fun x hx => by have := hs x hx; omega⟩
      | true =>
        have hx0 : (rdOf ByteArray.empty L 0) ∈ L := gmem ByteArray.empty (show 0 < L.length by omega)
        have hz := hs _ hx0
        refine ⟨_, a1, s1, Ev.step (fun k => by simp only [spec_l1Cur_data.l0]; rw [if_neg (by omega), if_pos hl, e1]; simp only [Option.bind_some]; rw [if_pos True.intro, if_pos (by omega), if_pos (by omega)]) (Ev.now _), by rw [List.length_set]; omega, p0, by omega, fun x hx => ?_⟩
        rcases List.mem_or_eq_of_mem_set hx with h' | h'
        · have := hs x h'; omega
        · have h4 : (rdOf ByteArray.empty L 0 ++ (⟨#[120]⟩ : ByteArray)).size = (rdOf ByteArray.empty L 0).size + 1 := by rw [ByteArray.size_append]; rfl
          rw [h', h4]; omega
    · exact ⟨L, a, s, Ev.step (fun k => by simp only [spec_l1Cur_data.l0]; rw [if_neg (by omega), if_neg hl]) (Ev.now _), by omega, h0, by omega, fun x hx => by have := hs x hx; omega⟩
  | succ d ih =>
    intro L N a s hd hL hN h0 h1 hs
    obtain ⟨t, a1, s1, e1, ht, p0, p1⟩ := d_text cs hb m (by omega) N a s (by omega) h0 h1
    obtain ⟨L', a2, s2, h, g1, g2, g3, g4⟩ := ih (L ++ [t]) (N + 90) a1 s1 (by omega) (by rw [List.length_append]; simp; omega) (by omega) p0 (by omega) (fun x hx => by
      rcases List.mem_append.mp hx with hx | hx
      · exact hs x hx
      · rw [List.mem_singleton.mp hx]; omega)
    refine ⟨L', a2, s2, Ev.step (fun k => by simp only [spec_l1Cur_data.l0]; rw [if_pos (by omega)]) (Ev.bind e1 (evp (show L.length < 8796093022208 by omega) ?_)), g1, g2, by omega, g4⟩
    rw [show wrap64 (((d + 1 : Nat) : Int) - 1) = (d : Int) by unfold wrap64; omega]
    exact h
theorem d_data_j (m : Nat) (hm : m ≤ 41) (N a s : Int) (hN : N < 2 ^ 40) (h0 : 0 ≤ a) (h1 : a ≤ N) : ∃ L a' s', Ev (fun k => spec_l1Cur_data.j0 k (m : Int) cs a s) (L, a', s') ∧ L.length ≤ 40 ∧ 0 ≤ a' ∧ a' ≤ N + 2000 ∧ ∀ x ∈ L, x.size ≤ 42 := by
  obtain ⟨b, a1, s1, e1, b0, b1, p0, p1⟩ := cur_pick cs hb a s N 5 h0 h1 (by omega) (by omega)
  obtain ⟨o, a2, s2, e2, q0, q1⟩ := cur_one cs hb a1 s1 (N + 2) 20 p0 p1 (by omega) (by omega)
  cases o with
  | false =>
    obtain ⟨B, hB⟩ := Int.eq_ofNat_of_zero_le b0
    obtain ⟨L, a3, s3, h, g1, g2, g3, g4⟩ := d_data_l cs hb m hm (1 + B) [] (N + 4) a2 s2 (by omega) (by simp; omega) (by omega) q0 (by omega) (fun x hx => by cases hx)
    refine ⟨L, a3, s3, Ev.step (fun k => by simp only [spec_l1Cur_data.j0]; rfl) (ev_to_some e1 (ev_to_some e2 (evn (show ¬ ((false, a2, s2).1 = true) by simp) ?_))), g1, g2, by omega, g4⟩
    show Ev (fun k => spec_l1Cur_data.j1 k (m : Int) ([] : List ByteArray) (wrap64 (1 + b)) cs a2 s2) _
    rw [show wrap64 (1 + b) = ((1 + B : Nat) : Int) by rw [hB]; unfold wrap64; omega]
    exact Ev.step (fun k => by simp only [spec_l1Cur_data.j1]) h
  | true =>
    obtain ⟨c, a3, s3, e3, hc, r0, r1⟩ := cur_among cs hb a2 s2 (N + 4) [0, 16, 17] (by decide) (by decide) q0 (by omega) (by omega)
    have hc' : c = 0 ∨ c = 16 ∨ c = 17 := by simpa using hc
    obtain ⟨B, hB⟩ := Int.eq_ofNat_of_zero_le (show 0 ≤ c by omega)
    obtain ⟨L, a4, s4, h, g1, g2, g3, g4⟩ := d_data_l cs hb m hm B [] (N + 6) a3 s3 (by omega) (by simp; omega) (by omega) r0 (by omega) (fun x hx => by cases hx)
    refine ⟨L, a4, s4, Ev.step (fun k => by simp only [spec_l1Cur_data.j0]; rfl) (ev_to_some e1 (ev_to_some e2 (evp (show (true, a2, s2).1 = true from rfl) (ev_to_some e3 ?_)))), g1, g2, by omega, g4⟩
    show Ev (fun k => spec_l1Cur_data.j1 k (m : Int) ([] : List ByteArray) c cs a3 s3) _
    rw [hB]
    exact Ev.step (fun k => by simp only [spec_l1Cur_data.j1]) h
theorem d_data (N a s : Int) (hN : N < 2 ^ 38) (h0 : 0 ≤ a) (h1 : a ≤ N) : ∃ L a' s', Ev (fun k => spec_l1Cur_data.f k cs a s) (L, a', s') ∧ L.length ≤ 40 ∧ 0 ≤ a' ∧ a' ≤ N + 3000 ∧ ∀ x ∈ L, x.size ≤ 42 := by
  obtain ⟨b, a1, s1, e1, b0, b1, p0, p1⟩ := cur_pick cs hb a s N 6 h0 h1 (by omega) (by omega)
  obtain ⟨o, a2, s2, e2, q0, q1⟩ := cur_one cs hb a1 s1 (N + 2) 20 p0 p1 (by omega) (by omega)
  unfold spec_l1Cur_data.f
  cases o with
  | false =>
    obtain ⟨B, hB⟩ := Int.eq_ofNat_of_zero_le b0
    obtain ⟨L, a3, s3, h, g1, g2, g3, g4⟩ := d_data_j cs hb B (by omega) (N + 4) a2 s2 (by omega) q0 (by omega)
    refine ⟨L, a3, s3, ev_to_some e1 (ev_to_some e2 (evn (by simp) ?_)), g1, g2, by omega, g4⟩
    show Ev (fun k => spec_l1Cur_data.j0 k b cs a2 s2) _
    rw [hB]; exact h
  | true =>
    obtain ⟨c, a3, s3, e3, c0, c1, r0, r1⟩ := cur_pick cs hb a2 s2 (N + 4) 2 q0 (by omega) (by omega) (by omega)
    obtain ⟨B, hB⟩ := Int.eq_ofNat_of_zero_le c0
    obtain ⟨L, a4, s4, h, g1, g2, g3, g4⟩ := d_data_j cs hb (40 + B) (by omega) (N + 6) a3 s3 (by omega) r0 (by omega)
    refine ⟨L, a4, s4, ev_to_some e1 (ev_to_some e2 (evp (by simp) (ev_to_some e3 ?_))), g1, g2, by omega, g4⟩
    show Ev (fun k => spec_l1Cur_data.j0 k (wrap64 (40 + c)) cs a3 s3) _
    rw [show wrap64 (40 + c) = ((40 + B : Nat) : Int) by rw [hB]; unfold wrap64; omega]; exact h
theorem d_stripe_j (x20 : Bool) (xs : List ByteArray) (p q : ByteArray) (hx : xs.length ≤ 40) (hp : p.size ≤ 42) (h20 : x20 = true → 0 < xs.length) (N a s : Int) (hN : N < 2 ^ 39) (h0 : 0 ≤ a) (h1 : a ≤ N) :
    ∃ xs' p' q' a' s', Ev (fun k => spec_l1Cur_stripe.j0 k x20 cs a s xs p q) (xs', p', q', a', s') ∧ xs'.length ≤ 40 ∧ p'.size ≤ 44 ∧ 0 ≤ a' ∧ a' ≤ N + 200 := by
  have h1s : ∀ t : ByteArray, t.size ≤ 43 → (t ++ (⟨#[120]⟩ : ByteArray)).size ≤ 44 := fun t ht => by rw [ByteArray.size_append]; show t.size + 1 ≤ 44; omega
  cases x20 with
  | false =>
    obtain ⟨o, a1, s1, e1, p0, p1⟩ := cur_one cs hb a s N 40 h0 h1 (by omega) (by omega)
    cases o with
    | false => exact ⟨xs, p, q, a1, s1, Ev.step (fun k => by simp only [spec_l1Cur_stripe.j0]; rw [if_neg (by decide), e1]; simp only [Option.bind_some]; rw [if_neg (by decide)]) (Ev.now _), hx, by omega, p0, by omega⟩
    | true => exact ⟨xs, _, q, a1, s1, Ev.step (fun k => by simp only [spec_l1Cur_stripe.j0]; rw [if_neg (by decide), e1]; simp only [Option.bind_some]; rw [if_pos True.intro, if_pos (by omega)]) (Ev.now _), hx, h1s p (by omega), p0, by omega⟩
  | true =>
    have hpos := h20 rfl
    have hw : wrap64 ((xs.length : Int) + 2) = (xs.length : Int) + 2 := by unfold wrap64; omega
    obtain ⟨b, a1, s1, e1, b0, b1, p0, p1⟩ := cur_pick cs hb a s N ((xs.length : Int) + 2) h0 h1 (by omega) (by omega)
    obtain ⟨t, a2, s2, e2, ht, q0, q1⟩ := d_text cs hb p.size (by omega) (N + 2) a1 s1 (by omega) p0 p1
    obtain ⟨o, a3, s3, e3, r0, r1⟩ := cur_one cs hb a2 s2 (N + 100) 40 q0 (by omega) (by omega) (by omega)
    by_cases c1 : b < (xs.length : Int)
    · cases o with
      | false =>
        refine ⟨xs.set b.toNat t, p, q, a3, s3, Ev.step (fun k => by simp only [spec_l1Cur_stripe.j0]; rw [if_pos True.intro, hw, e1]; simp only [Option.bind_some]; rfl) (Ev.bind e2 (evp c1 (evp b0 ?_))), by rw [List.length_set]; exact hx, by omega, r0, by omega⟩
        exact ev_to_some e3 (evn (by simp) (Ev.now _))
      | true =>
        refine ⟨xs.set b.toNat t, _, q, a3, s3, Ev.step (fun k => by simp only [spec_l1Cur_stripe.j0]; rw [if_pos True.intro, hw, e1]; simp only [Option.bind_some]; rfl) (Ev.bind e2 (evp c1 (evp b0 ?_))), by rw [List.length_set]; exact hx, h1s p (by omega), r0, by omega⟩
        exact ev_to_some e3 (evp (by simp) (evp (by omega) (Ev.now _)))
    · by_cases c2 : b = (xs.length : Int)
      · cases o with
        | false =>
          refine ⟨xs, t, q, a3, s3, Ev.step (fun k => by simp only [spec_l1Cur_stripe.j0]; rw [if_pos True.intro, hw, e1]; simp only [Option.bind_some]; rfl) (Ev.bind e2 (evn c1 (evp c2 ?_))), hx, by omega, r0, by omega⟩
          exact ev_to_some e3 (evn (by simp) (Ev.now _))
        | true =>
          refine ⟨xs, _, q, a3, s3, Ev.step (fun k => by simp only [spec_l1Cur_stripe.j0]; rw [if_pos True.intro, hw, e1]; simp only [Option.bind_some]; rfl) (Ev.bind e2 (evn c1 (evp c2 ?_))), hx, h1s t (by omega), r0, by omega⟩
          exact ev_to_some e3 (evp (by simp) (evp (show t.size + 1 ≤ 9223372036854775807 by omega) (Ev.now _)))
      · cases o with
        | false =>
          refine ⟨xs, p, t, a3, s3, Ev.step (fun k => by simp only [spec_l1Cur_stripe.j0]; rw [if_pos True.intro, hw, e1]; simp only [Option.bind_some]; rfl) (Ev.bind e2 (evn c1 (evn c2 ?_))), hx, by omega, r0, by omega⟩
          exact ev_to_some e3 (evn (by simp) (Ev.now _))
        | true =>
          refine ⟨xs, _, t, a3, s3, Ev.step (fun k => by simp only [spec_l1Cur_stripe.j0]; rw [if_pos True.intro, hw, e1]; simp only [Option.bind_some]; rfl) (Ev.bind e2 (evn c1 (evn c2 ?_))), hx, h1s p (by omega), r0, by omega⟩
          exact ev_to_some e3 (evp (by simp) (evp (by omega) (Ev.now _)))
theorem d_stripe : ∃ xs p q a' s', Ev (fun k => spec_l1Cur_stripe.f k cs 0 0) (xs, p, q, a', s') ∧ xs.length ≤ 40 ∧ p.size ≤ 44 ∧ 0 ≤ a' ∧ a' ≤ 5000 := by
  obtain ⟨L, a1, s1, e1, g1, g2, g3, g4⟩ := d_data cs hb 0 0 0 (by omega) (by omega) (by omega)
  have e2 := make_s L (by omega)
  obtain ⟨o, a2, s2, e3, q0, q1⟩ := cur_one cs hb a1 s1 3000 2 g2 (by omega) (by omega) (by omega)
  obtain ⟨xs, p, q, ok, hr, hxl, hps⟩ : ∃ xs p q ok, (if even L = true then (L, txt (L.getD 0 ByteArray.empty).size (pP L), txt (L.getD 0 ByteArray.empty).size (pQ L 0), true) else ([], (⟨#[]⟩ : ByteArray), (⟨#[]⟩ : ByteArray), false)) = (xs, p, q, ok) ∧ xs.length ≤ 40 ∧ p.size ≤ 42 := by
    by_cases he : even L = true
    · rw [if_pos he]
      refine ⟨_, _, _, _, rfl, g1, ?_⟩
      rw [txt_size]
      have := (even_sizes he rfl).2.2.1
      omega
    · rw [if_neg he]; exact ⟨_, _, _, _, rfl, by simp, by show 0 ≤ 42; omega⟩
  rw [hr] at e2
  unfold spec_l1Cur_stripe.f
  cases o with
  | false =>
    obtain ⟨xs', p', q', a3, s3, e4, k1, k2, k3, k4⟩ := d_stripe_j cs hb false xs p q hxl hps (fun h => by cases h) 3002 a2 s2 (by omega) q0 (by omega)
    exact ⟨xs', p', q', a3, s3, Ev.bind e1 (Ev.bind e2 (ev_to_some e3 (evn (by simp) e4))), k1, k2, k3, by omega⟩
  | true =>
    obtain ⟨xs', p', q', a3, s3, e4, k1, k2, k3, k4⟩ := d_stripe_j cs hb (decide ((xs.length : Int) > 0)) xs p q hxl hps (fun h => by have := of_decide_eq_true h; omega) 3002 a2 s2 (by omega) q0 (by omega)
    exact ⟨xs', p', q', a3, s3, Ev.bind e1 (Ev.bind e2 (ev_to_some e3 (evp (by simp) e4))), k1, k2, k3, by omega⟩
end

theorem one_even {xs : List ByteArray} {n : Nat} (h1 : 1 ≤ xs.length) (h2 : xs.length ≤ 16) (h3 : n ≤ 40) (h4 : ∀ x ∈ xs, x.size = n) (p q : ByteArray) (l : Nat) : even (one xs p q n l).1 = true := by
  have hb := blank_all l h4
  unfold one
  by_cases c1 : l < xs.length
  · rw [if_pos c1]
    refine (even_of (n := n) (by simp only [List.length_set, blank_len]; exact h1) (by simp only [List.length_set, blank_len]; exact h2) h3 (fun x hx => ?_)).1
    rcases List.mem_or_eq_of_mem_set hx with h | h
    · exact hb x h
    · rw [h]; exact txt_size _ _
  · rw [if_neg c1]
    have h : even (blank xs n l) = true := (even_of (by rw [blank_len]; exact h1) (by rw [blank_len]; exact h2) h3 hb).1
    split <;> exact h
/-- the search for the one disk -/
def sgo (W : Nat → Bool) : Nat → Nat → Option Nat → Int × Bool
  | 0, _, none => (0, false)
  | 0, _, some m => ((m : Int), true)
  | d + 1, i, none => if W i = true then sgo W d (i + 1) (some i) else sgo W d (i + 1) none
  | d + 1, i, some m => if W i = true then (0, false) else sgo W d (i + 1) (some m)
def accI : Option Nat → Int
  | none => -1
  | some m => (m : Int)
def accL : Option Nat → List Int
  | none => []
  | some m => [(m : Int)]
section
variable {xs : List ByteArray} {n : Nat} (h1 : 1 ≤ xs.length) (h2 : xs.length ≤ 16) (h3 : n ≤ 40) (h4 : ∀ x ∈ xs, x.size = n)
include h1 h2 h3 h4
theorem spec_find (p q : ByteArray) (hp : p.size = n) (hq : q.size = n) (d : Nat) : ∀ (i : Nat) (a : Option Nat), i + d = xs.length + 2 →
    Ev (fun k => spec_FindWrong.l0 k (accI a) (i : Int) xs p q) (sgo (fun l => right (one xs p q n l).1 (one xs p q n l).2.1 (one xs p q n l).2.2) d i a) := by
  have w1 : wrap64 ((xs.length : Int) + 1) = (xs.length : Int) + 1 := by unfold wrap64; omega
  induction d with
  | zero =>
    intro i a hi
    refine Ev.step (fun k => by simp only [spec_FindWrong.l0]; rw [w1, if_neg (by omega)]) ?_
    cases a with
    | none => exact evp (by decide) (Ev.now _)
    | some m => exact evn (by show ¬ (m : Int) < 0; omega) (Ev.now _)
  | succ d ih =>
    intro i a hi
    refine Ev.step (fun k => by simp only [spec_FindWrong.l0]; rw [w1, if_pos (by omega), inc i (by omega)]) ?_
    refine Ev.bind (spec_one h1 h2 h3 h4 p q i hp (by omega) (by omega)) (Ev.bind (spec_right _ _ (one_even h1 h2 h3 h4 p q i)) ?_)
    cases hW : right (one xs p q n i).1 (one xs p q n i).2.1 (one xs p q n i).2.2 with
    | false =>
      refine evn (by decide) ?_
      have := ih (i + 1) a (by omega)
      cases a <;> (simp only [sgo, hW]; rw [if_neg (by decide)]; exact this)
    | true =>
      refine evp rfl ?_
      cases a with
      | none =>
        have := ih (i + 1) (some i) (by omega)
        simp only [sgo, hW]
        rw [if_pos True.intro]
        exact evn (by decide) this
      | some m =>
        simp only [sgo, hW]
        rw [if_pos True.intro]
        exact evp (by show (m : Int) ≥ 0; omega) (Ev.now _)
theorem impl_many (p q : ByteArray) (hp : p.size = n) (d : Nat) : ∀ (i : Nat) (L : List Int), i + d = xs.length + 2 → 2 ≤ L.length → L.length + d ≤ 1000 →
    Ev (fun k => impl_FindWrong.l0 k L ((xs.length : Int) + 2) (i : Int) xs p q) (0, false) := by
  induction d with
  | zero =>
    intro i L hi hL _
    exact Ev.step (fun k => by simp only [impl_FindWrong.l0]; rw [if_neg (by omega), if_neg (by omega)]) (Ev.now _)
  | succ d ih =>
    intro i L hi hL hb
    refine Ev.step (fun k => by simp only [impl_FindWrong.l0]; rw [if_pos (by omega), inc i (by omega)]) ?_
    refine Ev.bind (impl_one h1 h2 h3 h4 p q i hp (by omega)) (Ev.bind (impl_right _ _ (one_even h1 h2 h3 h4 p q i)) ?_)
    cases hW : right (one xs p q n i).1 (one xs p q n i).2.1 (one xs p q n i).2.2 with
    | false => exact evn (by decide) (ih (i + 1) L (by omega) hL (by omega))
    | true => exact evp rfl (evp (by omega) (ih (i + 1) _ (by omega) (by rw [List.length_append]; omega) (by rw [List.length_append]; simp only [List.length_cons, List.length_nil]; omega)))
theorem impl_find (p q : ByteArray) (hp : p.size = n) (d : Nat) : ∀ (i : Nat) (a : Option Nat), i + d = xs.length + 2 →
    Ev (fun k => impl_FindWrong.l0 k (accL a) ((xs.length : Int) + 2) (i : Int) xs p q) (sgo (fun l => right (one xs p q n l).1 (one xs p q n l).2.1 (one xs p q n l).2.2) d i a) := by
  induction d with
  | zero =>
    intro i a hi
    refine Ev.step (fun k => by simp only [impl_FindWrong.l0]; rw [if_neg (by omega)]) ?_
    cases a with
    | none => exact evn (by decide) (Ev.now _)
    | some m => exact evp rfl (evp (by show (0 : Int) < ((1 : Nat) : Int); omega) (Ev.now _))
  | succ d ih =>
    intro i a hi
    refine Ev.step (fun k => by simp only [impl_FindWrong.l0]; rw [if_pos (by omega), inc i (by omega)]) ?_
    refine Ev.bind (impl_one h1 h2 h3 h4 p q i hp (by omega)) (Ev.bind (impl_right _ _ (one_even h1 h2 h3 h4 p q i)) ?_)
    cases hW : right (one xs p q n i).1 (one xs p q n i).2.1 (one xs p q n i).2.2 with
    | false =>
      refine evn (by decide) ?_
      have := ih (i + 1) a (by omega)
      cases a <;> (simp only [sgo, hW]; rw [if_neg (by decide)]; exact this)
    | true =>
      refine evp rfl ?_
      cases a with
      | none =>
        have := ih (i + 1) (some i) (by omega)
        simp only [sgo, hW]
        rw [if_pos True.intro]
        exact evp (by decide) this
      | some m =>
        simp only [sgo, hW]
        rw [if_pos True.intro]
        exact evp (by show 1 < 17592186044416; omega) (impl_many h1 h2 h3 h4 p q hp d (i + 1) _ (by omega) (by simp [accL]) (by simp only [accL, List.length_append, List.length_cons, List.length_nil]; omega))
end
theorem sgo_tells (W : Nat → Bool) : ∀ (d i : Nat) (a : Option Nat), (∀ m, a = some m → W m = true) → ((sgo W d i a).2 = false → (sgo W d i a).1 = 0) ∧ ((sgo W d i a).2 = true → ∃ m : Nat, (sgo W d i a).1 = (m : Int) ∧ W m = true ∧ (a = some m ∨ m < i + d))
  | 0, i, none, _ => ⟨fun _ => rfl, fun h => by cases h⟩
  | 0, i, some m, ha => ⟨fun h => (by cases h), fun _ => ⟨m, rfl, ha m rfl, Or.inl rfl⟩⟩
  | d + 1, i, none, ha => by
    rw [sgo]
    cases hW : W i with
    | true =>
      rw [if_pos rfl]
      have ih := sgo_tells W d (i + 1) (some i) (fun m h => by cases h; exact hW)
      refine ⟨ih.1, fun h => ?_⟩
      obtain ⟨m, h1, h2, h3⟩ := ih.2 h
      refine ⟨m, h1, h2, Or.inr ?_⟩
      rcases h3 with h3 | h3
      · cases h3; omega
      · omega
    | false =>
      rw [if_neg (by decide)]
      have ih := sgo_tells W d (i + 1) none (fun m h => by cases h)
      refine ⟨ih.1, fun h => ?_⟩
      obtain ⟨m, h1, h2, h3⟩ := ih.2 h
      exact ⟨m, h1, h2, Or.inr (by have := h3.resolve_left (by simp); omega)⟩
  | d + 1, i, some m0, ha => by
    rw [sgo]
    cases hW : W i with
    | true => rw [if_pos rfl]; exact ⟨fun _ => rfl, fun h => by cases h⟩
    | false =>
      rw [if_neg (by decide)]
      have ih := sgo_tells W d (i + 1) (some m0) ha
      refine ⟨ih.1, fun h => ?_⟩
      obtain ⟨m, h1, h2, h3⟩ := ih.2 h
      exact ⟨m, h1, h2, h3.imp id (fun h => by omega)⟩
theorem told_FindWrong (xs : List ByteArray) (p q : ByteArray) (hx : xs.length < 2 ^ 40) : ∃ r : Int × Bool, Ev (fun k => spec_FindWrong.f k xs p q) r ∧ Ev (fun k => impl_FindWrong.f k xs p q) r ∧ (r.2 = false → r.1 = 0) ∧ (r.2 = true → ∃ l n : Nat, r.1 = (l : Int) ∧ l ≤ xs.length + 1 ∧ goodS xs p q = true ∧ (xs.getD 0 ByteArray.empty).size = n ∧ right (one xs p q n l).1 (one xs p q n l).2.1 (one xs p q n l).2.2 = true) := by
  have nos : Ev (fun k => spec_FindWrong.j0 k true xs p q) (0, false) := Ev.step (fun k => by simp only [spec_FindWrong.j0]; rw [if_pos True.intro]) (Ev.now _)
  have noi : Ev (fun k => impl_FindWrong.j0 k true xs p q) (0, false) := Ev.step (fun k => by simp only [impl_FindWrong.j0]; rw [if_pos True.intro]) (Ev.now _)
  unfold spec_FindWrong.f impl_FindWrong.f
  cases hg : goodS xs p q with
  | false =>
    refine ⟨(0, false), Ev.bind (spec_good xs p q hx) ?_, ev_to_some (impl_good xs p q) ?_, fun _ => rfl, fun h => by cases h⟩
    · rw [hg]; exact evn (by decide) nos
    · rw [hg]; exact evn (by decide) noi
  | true =>
    have he := good_even hg
    obtain ⟨hp, hq, b1, b2, b3, b4⟩ := good_all hg rfl
    cases hr : right xs p q with
    | true =>
      refine ⟨(0, false), Ev.bind (spec_good xs p q hx) ?_, ev_to_some (impl_good xs p q) ?_, fun _ => rfl, fun h => by cases h⟩
      · rw [hg]; refine evp rfl (Ev.bind (spec_right p q he) ?_); rw [hr]; exact nos
      · rw [hg]; refine evp rfl (Ev.bind (impl_right p q he) ?_); rw [hr]; exact noi
    | false =>
      have w2 : wrap64 ((xs.length : Int) + 2) = (xs.length : Int) + 2 := by unfold wrap64; omega
      generalize hn : (xs.getD 0 ByteArray.empty).size = n at hp hq b3 b4
      refine ⟨sgo (fun l => right (one xs p q n l).1 (one xs p q n l).2.1 (one xs p q n l).2.2) (xs.length + 2) 0 none, Ev.bind (spec_good xs p q hx) ?_, ev_to_some (impl_good xs p q) ?_, (sgo_tells _ _ _ _ (fun m h => by cases h)).1, fun h => ?_⟩
      · rw [hg]; refine evp rfl (Ev.bind (spec_right p q he) ?_); rw [hr]
        refine Ev.step (fun k => by simp only [spec_FindWrong.j0]; rw [if_neg (by decide)]) ?_
        exact spec_find b1 b2 b3 b4 p q hp hq (xs.length + 2) 0 none (by omega)
      · rw [hg]; refine evp rfl (Ev.bind (impl_right p q he) ?_); rw [hr]
        refine Ev.step (fun k => by simp only [impl_FindWrong.j0]; rw [if_neg (by decide), w2]) ?_
        exact impl_find b1 b2 b3 b4 p q hp (xs.length + 2) 0 none (by omega)
      · obtain ⟨m, hm, hW, hle⟩ := (sgo_tells (fun l => right (one xs p q n l).1 (one xs p q n l).2.1 (one xs p q n l).2.2) (xs.length + 2) 0 none (fun m h => by cases h)).2 h
        exact ⟨m, n, hm, by have := hle.resolve_left (by simp); omega, rfl, rfl, hW⟩
theorem told_UpdateStripe (xs : List ByteArray) (p q : ByteArray) (a : Int) (d : ByteArray) (hx : xs.length < 2 ^ 40) : ∃ (rx : List ByteArray) (rp rq : ByteArray) (ok : Bool), rx.length < 2 ^ 40 ∧ Ev (fun k => spec_UpdateStripe.f k xs p q a d) (rx, rp, rq, ok) ∧ Ev (fun k => impl_UpdateStripe.f k xs p q a d) (rx, rp, rq, ok) ∧ (ok = true → ∃ l n : Nat, a = (l : Int) ∧ l < xs.length ∧ goodS xs p q = true ∧ (xs.getD 0 ByteArray.empty).size = n ∧ d.size = n ∧ rx = xs.set l d ∧ rp = (txt n fun j => bn p j ^^^ (bn (xs.getD l ByteArray.empty) j ^^^ bn d j)) ∧ rq = txt n fun j => bn q j ^^^ gm (ex l) (bn (xs.getD l ByteArray.empty) j ^^^ bn d j)) := by
  have w1 : wrap64 ((xs.length : Int) + 1) = (xs.length : Int) + 1 := by unfold wrap64; omega
  have w2 : wrap64 ((xs.length : Int) - 1) = (xs.length : Int) - 1 := by unfold wrap64; omega
  have nos : Ev (fun k => spec_UpdateStripe.j0 k a d true xs p q) ([], (⟨#[]⟩ : ByteArray), (⟨#[]⟩ : ByteArray), false) := Ev.step (fun k => by simp only [spec_UpdateStripe.j0]; rw [if_pos True.intro]) (Ev.now _)
  have noi : Ev (fun k => impl_UpdateStripe.j0 k a d true xs p q) ([], (⟨#[]⟩ : ByteArray), (⟨#[]⟩ : ByteArray), false) := Ev.step (fun k => by simp only [impl_UpdateStripe.j0]; rw [if_pos True.intro]) (Ev.now _)
  have no : (goodS xs p q = true → ¬ (a ≥ 0 ∧ a ≤ (xs.length : Int) - 1 ∧ d.size = p.size)) → Ev (fun k => spec_UpdateStripe.f k xs p q a d) ([], (⟨#[]⟩ : ByteArray), (⟨#[]⟩ : ByteArray), false) ∧ Ev (fun k => impl_UpdateStripe.f k xs p q a d) ([], (⟨#[]⟩ : ByteArray), (⟨#[]⟩ : ByteArray), false) := by
    intro h
    constructor
    · unfold spec_UpdateStripe.f
      refine Ev.bind (spec_good xs p q hx) ?_
      cases hg : goodS xs p q with
      | false => exact evn (by decide) nos
      | true =>
        refine evp rfl (ev_to_some (l1In_tells _ _ _) ?_)
        rw [w2]
        by_cases h1 : a ≥ 0 ∧ a ≤ (xs.length : Int) - 1
        · rw [decide_eq_true h1]
          refine evp rfl ?_
          rw [show ((d.size : Int) != (p.size : Int)) = true from bne_iff_ne.mpr (fun e => h hg ⟨h1.1, h1.2, by omega⟩)]
          exact nos
        · rw [decide_eq_false h1]
          exact evn (by decide) nos
    · unfold impl_UpdateStripe.f
      refine ev_to_some (isDisk xs p q a hx) ?_
      cases hg : goodS xs p q with
      | false => exact evn (by simp) noi
      | true =>
        by_cases h1 : a ≥ 0 ∧ a ≤ (xs.length : Int) + 1
        · rw [decide_eq_true h1]
          refine evp rfl ?_
          by_cases h2 : a ≥ (xs.length : Int)
          · exact evp h2 noi
          · refine evn h2 ?_
            rw [show ((d.size : Int) != (p.size : Int)) = true from bne_iff_ne.mpr (fun e => h hg ⟨h1.1, by omega, by omega⟩)]
            exact noi
        · rw [decide_eq_false h1]
          exact evn (by decide) noi
  by_cases hg : goodS xs p q = true
  · by_cases ha : a ≥ 0 ∧ a ≤ (xs.length : Int) - 1 ∧ d.size = p.size
    · obtain ⟨l, rfl⟩ : ∃ l : Nat, a = (l : Int) := ⟨a.toNat, by omega⟩
      obtain ⟨hp, hq, b1, b2, b3, b4⟩ := good_all hg rfl
      generalize hn : (xs.getD 0 ByteArray.empty).size = n at hp hq b3 b4
      have ho := b4 _ (gmem ByteArray.empty (show l < xs.length by omega))
      generalize hol : xs.getD l ByteArray.empty = o at ho
      have hd : d.size = n := by omega
      have hb : ((d.size : Int) != (p.size : Int)) = false := bne_eq_false_iff_eq.mpr (by omega)
      refine ⟨xs.set l d, txt n fun j => bn p j ^^^ (bn o j ^^^ bn d j), txt n fun j => bn q j ^^^ gm (ex l) (bn o j ^^^ bn d j), true, by rw [List.length_set]; exact hx, ?_, ?_, fun _ => ⟨l, n, rfl, by omega, hg, rfl, hd, rfl, by rw [hol], by rw [hol]⟩⟩
      · unfold spec_UpdateStripe.f
        refine Ev.bind (spec_good xs p q hx) ?_
        rw [hg]
        refine evp rfl (ev_to_some (l1In_tells _ _ _) ?_)
        rw [w2, decide_eq_true (show (l : Int) ≥ 0 ∧ (l : Int) ≤ (xs.length : Int) - 1 from ⟨ha.1, ha.2.1⟩), hb]
        refine evp rfl (Ev.step (fun k => by simp only [spec_UpdateStripe.j0]; rw [if_neg (by decide)]) (ev_to_some (own xs p q hx) ?_))
        refine evp (by omega) (evp (by show (l : Int) < (xs.length : Int); omega) ?_)
        show Ev (fun k => (spec_l3Xor.f (rdOf ByteArray.empty xs (l : Int)) d).bind _) _
        rw [rdOf_nat, hol]
        have x1 := spec_xors o d (by omega) (by omega)
        rw [ho] at x1
        have x2 := spec_xors p (txt n fun j => bn o j ^^^ bn d j) (by rw [txt_size]; omega) (by omega)
        rw [hp, txt_xr n p _ (fun j => xor_lt _ _ (bn_lt o j) (bn_lt d j))] at x2
        have x3 := ev_times (ex l) (ex_lt l) (txt n fun j => bn o j ^^^ bn d j) (by rw [txt_size]; omega)
        rw [txt_size, txt_gr n _ _ (fun j => xor_lt _ _ (bn_lt o j) (bn_lt d j))] at x3
        have x4 := spec_xors q (txt n fun j => gm (ex l) (bn o j ^^^ bn d j)) (by rw [txt_size]; omega) (by omega)
        rw [hq, txt_xr n q _ (fun j => gm_lt _ _ (ex_lt l))] at x4
        refine ev_to_some x1 (ev_to_some x2 (Ev.bind (ev_pow2 l (by omega)) (Ev.bind x3 (ev_to_some x4 ?_))))
        rw [Int.toNat_natCast]
        exact Ev.now _
      · unfold impl_UpdateStripe.f
        refine ev_to_some (isDisk xs p q _ hx) ?_
        rw [hg, decide_eq_true (show (l : Int) ≥ 0 ∧ (l : Int) ≤ (xs.length : Int) + 1 by omega), hb]
        refine evp rfl (evn (by omega) (Ev.step (fun k => by simp only [impl_UpdateStripe.j0]; rw [if_neg (by decide)]) ?_))
        refine Ev.bind (wo_nil xs p q hx) (evp (by omega) (evp (by omega) ?_))
        rw [rdOf_nat, hol]
        have x1 := impl_xors d o (by omega) (by omega)
        rw [hd, show (txt n fun j => bn d j ^^^ bn o j) = txt n fun j => bn o j ^^^ bn d j from txt_congr (fun j hj => Nat.xor_comm _ _)] at x1
        have x2 := impl_xors p (txt n fun j => bn o j ^^^ bn d j) (by rw [txt_size]; omega) (by omega)
        rw [hp, txt_xr n p _ (fun j => xor_lt _ _ (bn_lt o j) (bn_lt d j))] at x2
        have x3 := ev_weighed (txt n fun j => bn o j ^^^ bn d j) l (by rw [txt_size]; omega) (by omega)
        rw [txt_size, txt_gr n _ _ (fun j => xor_lt _ _ (bn_lt o j) (bn_lt d j))] at x3
        have x4 := impl_xors q (txt n fun j => gm (ex l) (bn o j ^^^ bn d j)) (by rw [txt_size]; omega) (by omega)
        rw [hq, txt_xr n q _ (fun j => gm_lt _ _ (ex_lt l))] at x4
        refine ev_to_some x1 (evp (by show (l : Int) < (xs.length : Int); omega) (ev_to_some x2 (Ev.bind x3 (ev_to_some x4 ?_))))
        rw [Int.toNat_natCast]
        exact Ev.now _
    · obtain ⟨n1, n2⟩ := no (fun _ => ha)
      exact ⟨[], _, _, false, by simp, n1, n2, fun h => by cases h⟩
  · obtain ⟨n1, n2⟩ := no (fun h => absurd h hg)
    exact ⟨[], _, _, false, by simp, n1, n2, fun h => by cases h⟩
theorem rec_one_i {xs : List ByteArray} {p q : ByteArray} {n : Nat} (hg : goodS xs p q = true) (hn : (xs.getD 0 ByteArray.empty).size = n) (l : Nat) (hl : l ≤ xs.length + 1) : Ev (fun k => impl_RecoverOne.f k xs p q (l : Int)) ((one xs p q n l).1, (one xs p q n l).2.1, (one xs p q n l).2.2, true) := by
  obtain ⟨hp, hq, b1, b2, b3, b4⟩ := good_all hg hn.symm
  unfold impl_RecoverOne.f
  refine ev_to_some (isDisk xs p q _ (by omega)) ?_
  rw [hg, decide_eq_true (show (l : Int) ≥ 0 ∧ (l : Int) ≤ (xs.length : Int) + 1 by omega)]
  exact evp rfl (Ev.bind (impl_one b1 b2 b3 b4 p q l hp (by omega)) (Ev.now _))
theorem one_good {xs : List ByteArray} {p q : ByteArray} {n : Nat} (hg : goodS xs p q = true) (hn : (xs.getD 0 ByteArray.empty).size = n) (l : Nat) : goodS (one xs p q n l).1 (one xs p q n l).2.1 (one xs p q n l).2.2 = true := by
  obtain ⟨hp, hq, b1, b2, b3, b4⟩ := good_all hg hn.symm
  have hall : ∀ x ∈ (one xs p q n l).1, x.size = n := by
    intro x hx
    have hbl := blank_all l b4
    unfold one at hx
    split at hx
    · rcases List.mem_or_eq_of_mem_set hx with h | h
      · exact hbl x h
      · rw [h]; exact txt_size _ _
    · split at hx <;> exact hbl x hx
  have hlen : (one xs p q n l).1.length = xs.length := by
    unfold one
    split
    · rw [List.length_set, blank_len]
    · split <;> exact blank_len _ _ _
  have ho := even_of (xs := (one xs p q n l).1) (n := n) (by omega) (by omega) b3 hall
  refine good_mk ho.1 ho.2.symm ?_ ?_
  · unfold one
    split
    · exact hp
    · split
      · exact txt_size _ _
      · exact hp
  · unfold one
    split
    · exact hq
    · split
      · exact hq
      · exact txt_size _ _
theorem check_s (xs : List ByteArray) (p q : ByteArray) (hx : xs.length < 2 ^ 40) : Ev (fun k => spec_CheckStripe.f k xs p q) (if goodS xs p q = true then (right xs p q, true) else (false, false)) := by
  unfold spec_CheckStripe.f
  refine Ev.bind (spec_good xs p q hx) ?_
  cases hg : goodS xs p q with
  | false => exact evn (by decide) (Ev.now _)
  | true => exact evp rfl (Ev.bind (spec_right p q (good_even hg)) (Ev.now _))
theorem u_j1 (cs : List Int) (hb : ∀ x ∈ cs, (Lit.int .u8 x).wf = true) : Ev (fun k => laws_FnUpdated.j1 k cs) true := by
  obtain ⟨xs, p, q, a, s, e, h1, h2, _, _⟩ := d_stripe cs hb
  have eg : Ev (fun k => spec_DrawFindWrong.f k cs) (xs, p, q) := by
    unfold spec_DrawFindWrong.f spec_DrawGoodStripe.f
    exact Ev.bind (Ev.bind e (Ev.now _)) (Ev.now _)
  obtain ⟨r, f1, f2, f3, f4⟩ := told_FindWrong xs p q (by omega)
  refine Ev.step (fun k => by simp only [laws_FnUpdated.j1]; rfl) (Ev.bind eg (Ev.bind f2 (Ev.bind f1 ?_)))
  rw [bne_self_eq_false, bne_self_eq_false]
  refine evn (by decide) (Ev.step (fun k => by simp only [laws_FnUpdated.j2]; rw [if_neg (by decide)]) ?_)
  cases hr : r.2 with
  | false =>
    rw [f3 hr]
    exact evn (by decide) (Ev.now _)
  | true =>
    obtain ⟨l, n, hl, hle, hg, hn, hW⟩ := f4 hr
    rw [hl]
    have c := check_i (one xs p q n l).1 (one xs p q n l).2.1 (one xs p q n l).2.2
    rw [if_pos (one_good hg hn l), hW] at c
    exact evp rfl (Ev.bind (rec_one_i hg hn l hle) (Ev.bind c (evp rfl (evp rfl (Ev.now _)))))
theorem FnUpdated : laws_FnUpdated.Pure := by
  intro l0 l1 hl0 _ hb0 hl1 _ hb1
  refine Ev.rounds ?_
  unfold laws_FnUpdated.f
  by_cases hbig : (wrap64 ((l0.length : Int) + (l1.length : Int))) > 1048576
  · exact evp hbig (Ev.now _)
  obtain ⟨xs, p, q, a0, s0, e0, hxl, hpl, g0, g1⟩ := d_stripe l0 hb0
  have hw : wrap64 ((xs.length : Int) + 1) = (xs.length : Int) + 1 := by unfold wrap64; omega
  obtain ⟨a, a1, s1, e1, b0, b1, p0, p1⟩ := cur_pick l0 hb0 a0 s0 5000 ((xs.length : Int) + 1) g0 g1 (by omega) (by omega)
  obtain ⟨d, a2, s2, e2, hd, _, _⟩ := d_text l0 hb0 p.size (by omega) 5002 a1 s1 (by omega) p0 p1
  have ed : Ev (fun k => spec_DrawUpdateStripe.f k l0) (xs, p, q, a, d) := by
    unfold spec_DrawUpdateStripe.f
    refine Ev.bind e0 ?_
    rw [hw]
    exact ev_to_some e1 (Ev.bind e2 (Ev.now _))
  obtain ⟨rx, rp, rq, ok, hrx, t1, t2, t3⟩ := told_UpdateStripe xs p q a d (by omega)
  have c1 := check_i xs p q
  have c2 := check_s xs p q (by omega)
  generalize hc : (if goodS xs p q = true then (right xs p q, true) else (false, false)) = c at c1 c2
  have J1 := u_j1 l1 hb1
  refine evn hbig (Ev.bind ed (Ev.bind t2 (Ev.bind t1 (Ev.bind c1 (Ev.bind c2 ?_)))))
  rw [bne_self_eq_false, bne_self_eq_false, bne_self_eq_false]
  refine evn (by decide) (Ev.bind (same_stripes rx rp rq hrx) (evp rfl (evn (by decide) ?_)))
  refine Ev.step (fun k => by simp only [laws_FnUpdated.j0]; rw [if_neg (by decide)]) ?_
  cases ok with
  | false => exact evn (by decide) J1
  | true =>
    obtain ⟨l, n, ha, hl, hg, hn, hdn, rfl, hrp, hrq⟩ := t3 rfl
    rw [if_pos hg] at hc
    obtain ⟨gp, gq, _, b2, _, _⟩ := good_all hg hn.symm
    have he := good_even hg
    obtain ⟨k1, k2⟩ := even_set he hn l d hdn
    have hR := right_upd he hn gp gq hdn hl
    rw [← hrp, ← hrq] at hR
    have c3 := check_i (xs.set l d) rp rq
    rw [if_pos (good_mk k1 k2 (by rw [hrp, txt_size]) (by rw [hrq, txt_size])), hR] at c3
    have hm := make_i k1 k2
    subst hc
    refine evp rfl (Ev.bind c3 (Ev.bind hm (evp rfl (evp rfl ?_))))
    rw [bne_self_eq_false]
    refine evn (by decide) ?_
    have hlen : (xs.set l d).length = xs.length := List.length_set
    have fin : Ev (fun k => if 0 ≤ a then (if a < ((xs.set l d).length : Int) then (if (rdOf ByteArray.empty (xs.set l d) a).toList = d.toList then laws_FnUpdated.j1 k l1 else some false) else none) else none) true := by
      refine evp (by omega) (evp (by omega) (evp ?_ J1))
      rw [ha, rdOf_nat, gset _ _ _ _ _ hl, if_pos rfl]
    cases hr : right xs p q with
    | false => exact evn (by decide) fin
    | true =>
      refine evp rfl ?_
      rw [hr] at hR
      unfold right at hR
      rw [Bool.and_eq_true, decide_eq_true_eq, decide_eq_true_eq, tl_iff, tl_iff, k2] at hR
      have hs := same_stripes (xs.set l d) rp rq hrx
      refine Ev.bind (a := true) ?_ (evp rfl fin)
      rw [← hR.1, ← hR.2]
      exact hs

end Go.Proofs.Ytfijnlhklfmoeaa.Pure
