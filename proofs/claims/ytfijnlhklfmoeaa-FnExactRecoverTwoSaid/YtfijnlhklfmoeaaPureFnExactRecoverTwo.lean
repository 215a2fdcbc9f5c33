/- The program's RecoverTwo answers as the reference's at all stripes and pairs of disks, and shares no memory; no condition. -/
import Derived.Test.YtfijnlhklfmoeaaGF
import Derived.Test.YtfijnlhklfmoeaaQFnExactRecoverTwox11
import Derived.OpenShut
set_option linter.unusedVariables false
set_option linter.unusedSimpArgs false
namespace Go.Proofs.Ytfijnlhklfmoeaa.Pure
open Go.RowKit Go.Proofs.Ytfijnlhklfmoeaa.PFnExactRecoverTwo Go.Proofs.YtfijnlhklfmoeaaW.PrintWords Go.Proofs.YtfijnlhklfmoeaaW.PrintLast Go.Proofs.YtfijnlhklfmoeaaW.PrintMore Go.Proofs.Ytfijnlhklfmoeaa.GF

theorem wr64 (n : Nat) (h : n < 2 ^ 62) : wrap64 (n : Int) = (n : Int) := by unfold wrap64; omega
theorem wri (n : Int) (h : 0 ≤ n) (h1 : n < 2 ^ 62) : wrap64 n = n := by unfold wrap64; omega
theorem byte_of {x : Int} (h : (Lit.int .u8 x).wf = true) : ∃ n : Nat, n < 256 ∧ x = (n : Int) := by
  have := bounds_u8 h
  exact ⟨x.toNat, by omega, by omega⟩
theorem shr_nat (b j q : Nat) (hj : j ≤ 8) (hq : q = b / 2 ^ j) : shr .u8 (b : Int) (j : Int) = (q : Int) := by
  unfold shr
  rw [Int.toNat_natCast, Nat.min_eq_left (show j ≤ IntKind.bits .u8 from hj), hq]
  simp
theorem and1_nat (q : Nat) (hq : q < 256) : Go.bits .and .u8 (q : Int) 1 = ((q % 2 : Nat) : Int) := by
  rw [and1_u8 (q : Int) (by omega) (by omega)]; simp
theorem and1_inat (q : Nat) (hq : q < 2 ^ 62) : Go.bits .and .i64 (q : Int) 1 = ((q % 2 : Nat) : Int) := by
  rw [and1_i64 (q : Int) (by omega) (by omega)]; simp
theorem dbl (x : Nat) (hx : x < 256) : wrap64 ((x : Int) * 2) = ((2 * x : Nat) : Int) := by unfold wrap64; omega
theorem inc (j : Nat) (hj : j < 2 ^ 62) : wrap64 ((j : Int) + 1) = ((j + 1 : Nat) : Int) := by unfold wrap64; omega
theorem x285 (x : Nat) (hx : x < 256) : Go.bits .xor .i64 ((2 * x : Nat) : Int) 285 = ((2 * x ^^^ 285 : Nat) : Int) := xor_i64 (2 * x) 285 (by omega) (by omega)
theorem xor_nat (o x : Nat) (ho : o < 256) (hx : x < 256) : Go.bits .xor .i64 (o : Int) (x : Int) = ((o ^^^ x : Nat) : Int) := xor_i64 o x (by omega) (by omega)
theorem xt_hi (x : Nat) (h : 2 * x > 255) : xt x = 2 * x ^^^ 285 := by unfold xt; rw [if_pos h]
theorem xt_lo (x : Nat) (h : ¬ 2 * x > 255) : xt x = 2 * x := by unfold xt; rw [if_neg h]

theorem within_tells (a b c : Int) : impl_within.f a b c = some (decide (a ≥ b ∧ a ≤ c)) := by
  unfold impl_within.f
  split
  · rename_i h; simp [h]
  · rename_i h; simp [h]
theorem l1In_tells (a b c : Int) : spec_l1In.f a b c = some (decide (a ≥ b ∧ a ≤ c)) := by
  unfold spec_l1In.f
  split
  · rename_i h; simp [h]
  · rename_i h; simp [h]

theorem ev_of {α : Type} {g : Nat → Option α} {r : α} (K : Nat) (h : ∀ k, K < k → g k = some r) : Ev g r := ⟨K + 1, fun k hk => h k (by omega)⟩
theorem evp {α : Type} {c : Prop} [Decidable c] {f g : Nat → Option α} {r : α} (h : c) (k : Ev f r) : Ev (fun n => if c then f n else g n) r := Ev.congr (fun _ => if_pos h) k
theorem evn {α : Type} {c : Prop} [Decidable c] {f g : Nat → Option α} {r : α} (h : ¬ c) (k : Ev g r) : Ev (fun n => if c then f n else g n) r := Ev.congr (fun _ => if_neg h) k
theorem ev_some {α β : Type} {a : α} {f : Nat → α → Option β} {r : β} (h : Ev (fun n => f n a) r) : Ev (fun n => (some a).bind (f n)) r := h
theorem ev_to_some {α β : Type} {o : Option α} {a : α} {f : Nat → α → Option β} {r : β} (ho : o = some a) (h : Ev (fun n => f n a) r) : Ev (fun n => o.bind (f n)) r := by subst ho; exact h
theorem maxLen_lt : maxLen < 2 ^ 63 := by decide

theorem gset {α : Type} (z : α) (xs : List α) (i j : Nat) (v : α) (hi : i < xs.length) : (xs.set i v).getD j z = if j = i then v else xs.getD j z := by
  simp only [List.getD_eq_getElem?_getD, List.getElem?_set]
  by_cases h : i = j
  · subst h; simp [hi]
  · rw [if_neg h, if_neg (fun e => h e.symm)]
theorem gext {α : Type} (z : α) {l m : List α} (hl : l.length = m.length) (h : ∀ j, j < l.length → l.getD j z = m.getD j z) : l = m := by
  apply List.ext_getElem hl
  intro j h1 h2
  have := h j h1
  simpa [List.getD_eq_getElem?_getD, h1, h2] using this
theorem rdOf_nat {α : Type} (z : α) (xs : List α) (i : Nat) : rdOf z xs (i : Int) = xs.getD i z := by unfold rdOf; rw [Int.toNat_natCast]
theorem gmem {α : Type} (z : α) {xs : List α} {i : Nat} (h : i < xs.length) : xs.getD i z ∈ xs := by
  rw [List.getD_eq_getElem?_getD]; simp [h]
/-- what a count of sizes leaves -/
def Left (B r : Int) : Prop := r < 0 ∨ 0 ≤ r ∧ r ≤ B
theorem sz_strs_l (xs : List ByteArray) (hl : xs.length < 2 ^ 48) (hs : ∀ x ∈ xs, x.size ≤ maxLen) (B : Int) (hB : B < 2 ^ 40) (d : Nat) : ∀ (i : Nat) (m : Int), i + d = xs.length → 0 ≤ m → m ≤ B →
    ∃ r, Ev (fun k => laws_szStringS.l0 k xs m (i : Int)) r ∧ Left B r := by
  induction d with
  | zero =>
    intro i m hi h0 h1
    exact ⟨m, Ev.step (fun k => by simp only [laws_szStringS.l0]; rw [if_neg (by omega)]) (Ev.now _), Or.inr ⟨h0, h1⟩⟩
  | succ d ih =>
    intro i m hi h0 h1
    have hsz := hs _ (gmem ByteArray.empty (show i < xs.length by omega))
    have hml := maxLen_lt
    have hw : wrap64 (m - (((xs.getD i ByteArray.empty).size : Nat) : Int)) = m - (((xs.getD i ByteArray.empty).size : Nat) : Int) := by unfold wrap64; omega
    by_cases hneg : m - (((xs.getD i ByteArray.empty).size : Nat) : Int) < 0
    · exact ⟨-1, Ev.step (fun k => by simp only [laws_szStringS.l0]; rw [if_pos (by omega), if_pos (by omega), rdOf_nat, hw, if_pos hneg]) (Ev.now _), Or.inl (by omega)⟩
    · obtain ⟨r, h2, h3⟩ := ih (i + 1) (m - (((xs.getD i ByteArray.empty).size : Nat) : Int)) (by omega) (by omega) (by omega)
      exact ⟨r, Ev.step (fun k => by simp only [laws_szStringS.l0]; rw [if_pos (by omega), if_pos (by omega), rdOf_nat, hw, if_neg hneg, inc i (by omega)]) h2, h3⟩
theorem sz_strs (xs : List ByteArray) (hl : xs.length ≤ maxLen) (hs : ∀ x ∈ xs, x.size ≤ maxLen) (B : Int) (h0 : 0 ≤ B) (hB : B < 2 ^ 40) :
    ∃ r, Ev (fun k => laws_szStringS.f k xs B) r ∧ (r < 0 ∨ 0 ≤ r ∧ r ≤ B ∧ (xs.length : Int) ≤ B) := by
  have hml := maxLen_lt
  unfold laws_szStringS.f
  rw [show wrap64 (B - (xs.length : Int)) = B - (xs.length : Int) by unfold wrap64; omega]
  by_cases hneg : B - (xs.length : Int) < 0
  · exact ⟨-1, evp hneg (Ev.now _), Or.inl (by omega)⟩
  · obtain ⟨r, h1, h2⟩ := sz_strs_l xs (by omega) hs (B - (xs.length : Int)) (by omega) xs.length 0 (B - (xs.length : Int)) (by omega) (by omega) (by omega)
    refine ⟨r, evn hneg h1, ?_⟩
    unfold Left at h2; omega
theorem to_strs_l (xs : List ByteArray) (hl : xs.length < 2 ^ 40) (d : Nat) : ∀ (ys : List ByteArray) (i : Nat), i + d = xs.length → ys.length = xs.length → (∀ j, j < i → ys.getD j ByteArray.empty = xs.getD j ByteArray.empty) →
    Ev (fun k => laws_toStringS.l0 k xs ys (i : Int)) xs := by
  induction d with
  | zero =>
    intro ys i hi hy he
    refine Ev.step (fun k => by simp only [laws_toStringS.l0]; rw [if_neg (by omega)]) ?_
    rw [gext ByteArray.empty hy (fun j hj => he j (by omega))]
    exact Ev.now _
  | succ d ih =>
    intro ys i hi hy he
    refine Ev.step (fun k => by
      simp only [laws_toStringS.l0]
      rw [if_pos (by omega), if_pos (by omega), if_pos (by omega), rdOf_nat, Int.toNat_natCast, inc i (by omega)]) ?_
    refine ih _ (i + 1) (by omega) (by rw [List.length_set]; exact hy) (fun j hj => ?_)
    rw [gset _ _ _ _ _ (by omega)]
    split
    · rename_i e; subst e; rfl
    · exact he j (by omega)
theorem to_strs (xs : List ByteArray) (hl : xs.length < 2 ^ 40) : Ev (fun k => laws_toStringS.f k xs) xs := by
  unfold laws_toStringS.f
  exact evp (by omega) (evp (by omega) (to_strs_l xs hl xs.length _ 0 (by omega) (by simp) (fun j hj => by omega)))
theorem eq_strs_l (xs : List ByteArray) (hl : xs.length < 2 ^ 40) (d : Nat) : ∀ (i : Nat), i + d = xs.length → Ev (fun k => laws_eqStringS.l0 k xs xs (i : Int)) true := by
  induction d with
  | zero => intro i hi; exact Ev.step (fun k => by simp only [laws_eqStringS.l0]; rw [if_neg (by omega)]) (Ev.now _)
  | succ d ih =>
    intro i hi
    exact Ev.step (fun k => by
      simp only [laws_eqStringS.l0]
      rw [if_pos (by omega), if_pos (by omega), if_pos (by omega), if_pos True.intro, inc i (by omega)]) (ih (i + 1) (by omega))
theorem eq_strs (xs : List ByteArray) (hl : xs.length < 2 ^ 40) : Ev (fun k => laws_eqStringS.f k xs xs) true := by
  unfold laws_eqStringS.f
  exact evp rfl (eq_strs_l xs hl xs.length 0 (by omega))

theorem sz_stripe (xs : List ByteArray) (p q : ByteArray) (hl : xs.length ≤ maxLen ∧ ∀ x ∈ xs, x.size ≤ maxLen) (hp : p.size ≤ maxLen) (hq : q.size ≤ maxLen) (B : Int) (h0 : 0 ≤ B) (hB : B < 2 ^ 40) :
    ∃ r, Ev (fun k => laws_szStripe.f k xs p q B) r ∧ (r < 0 ∨ 0 ≤ r ∧ r ≤ B ∧ (xs.length : Int) ≤ B) := by
  have hml := maxLen_lt
  obtain ⟨r, h1, h2⟩ := sz_strs xs hl.1 hl.2 B h0 hB
  unfold laws_szStripe.f
  by_cases hr : r < 0
  · exact ⟨-1, Ev.bind h1 (evp hr (Ev.now _)), Or.inl (by omega)⟩
  · have w1 : wrap64 (r - (p.size : Int)) = r - (p.size : Int) := by unfold wrap64; omega
    by_cases hr1 : r - (p.size : Int) < 0
    · refine ⟨-1, Ev.bind h1 (evn hr ?_), Or.inl (by omega)⟩
      rw [w1]
      exact evp hr1 (Ev.now _)
    · have w2 : wrap64 (r - (p.size : Int) - (q.size : Int)) = r - (p.size : Int) - (q.size : Int) := by clear w1; unfold wrap64; omega
      by_cases hr2 : r - (p.size : Int) - (q.size : Int) < 0
      · refine ⟨-1, Ev.bind h1 (evn hr ?_), Or.inl (by omega)⟩
        rw [w1, w2]
        exact evn hr1 (evp hr2 (Ev.now _))
      · refine ⟨r - (p.size : Int) - (q.size : Int), Ev.bind h1 (evn hr ?_), Or.inr (by omega)⟩
        rw [w1, w2]
        exact evn hr1 (evn hr2 (Ev.now _))
theorem to_stripe (xs : List ByteArray) (p q : ByteArray) (hl : xs.length < 2 ^ 40) : Ev (fun k => laws_toStripe.f k xs p q) (xs, p, q) := Ev.bind (to_strs xs hl) (Ev.now _)

theorem eq_stripe (xs : List ByteArray) (p q : ByteArray) (hl : xs.length < 2 ^ 40) : Ev (fun k => laws_eqStripe.f k xs p q xs p q) true := by
  unfold laws_eqStripe.f
  exact Ev.bind (eq_strs xs hl) (evp rfl (evp rfl (evp rfl (Ev.now _))))

/-- texts of one length, as both say it -/
def even (xs : List ByteArray) : Bool := decide (1 ≤ xs.length ∧ xs.length ≤ 16) && (decide ((xs.getD 0 ByteArray.empty).size ≤ 40) && !(xs.any fun s => (s.size : Int) != ((xs.getD 0 ByteArray.empty).size : Int)))
theorem l3data_l (xs : List ByteArray) (hl : xs.length < 2 ^ 40) (d : Nat) : ∀ (i : Nat), i + d = xs.length →
    Ev (fun k => spec_l3Data.l0 k xs xs (xs.length : Int) (i : Int)) (if (xs.drop i).any (fun s => (s.size : Int) != ((xs.getD 0 ByteArray.empty).size : Int)) = true then false else decide (1 ≤ xs.length ∧ xs.length ≤ 16) && decide ((xs.getD 0 ByteArray.empty).size ≤ 40)) := by
  induction d with
  | zero =>
    intro i hi
    rw [List.drop_eq_nil_of_le (by omega), List.any_nil, if_neg (by decide)]
    refine Ev.step (fun k => by simp only [spec_l3Data.l0]; rw [if_neg (by omega), l1In_tells]) ?_
    by_cases h : 1 ≤ xs.length ∧ xs.length ≤ 16
    · rw [decide_eq_true h, decide_eq_true (show (xs.length : Int) ≥ 1 ∧ (xs.length : Int) ≤ 16 by omega), Bool.true_and]
      refine ev_some (evp rfl (evp (by omega) ?_))
      rw [show rdOf ByteArray.empty xs 0 = xs.getD 0 ByteArray.empty from rfl]
      by_cases h2 : (xs.getD 0 ByteArray.empty).size ≤ 40
      · rw [decide_eq_true h2, decide_eq_true (by omega)]; exact Ev.now _
      · rw [decide_eq_false h2, decide_eq_false (by omega)]; exact Ev.now _
    · rw [decide_eq_false h, decide_eq_false (show ¬ ((xs.length : Int) ≥ 1 ∧ (xs.length : Int) ≤ 16) by omega), Bool.false_and]
      exact ev_some (evn (by decide) (Ev.now _))
  | succ d ih =>
    intro i hi
    have hd : xs.drop i = xs.getD i ByteArray.empty :: xs.drop (i + 1) := by
      rw [List.drop_eq_getElem_cons (by omega)]; simp [List.getD_eq_getElem?_getD, show i < xs.length by omega]
    rw [hd, List.any_cons]
    by_cases h : ((xs.getD i ByteArray.empty).size : Int) = ((xs.getD 0 ByteArray.empty).size : Int)
    · rw [bne_eq_false_iff_eq.mpr h, Bool.false_or]
      refine Ev.step (fun k => by
        simp only [spec_l3Data.l0]
        rw [if_pos (by omega), if_pos (by omega), if_pos (by omega), if_pos (by omega), rdOf_nat, show rdOf ByteArray.empty xs 0 = xs.getD 0 ByteArray.empty from rfl, if_pos h, inc i (by omega)]) (ih (i + 1) (by omega))
    · rw [bne_iff_ne.mpr h, Bool.true_or, if_pos rfl]
      exact Ev.step (fun k => by
        simp only [spec_l3Data.l0]
        rw [if_pos (by omega), if_pos (by omega), if_pos (by omega), if_pos (by omega), rdOf_nat, show rdOf ByteArray.empty xs 0 = xs.getD 0 ByteArray.empty from rfl, if_neg h]) (Ev.now _)
theorem l3data (xs : List ByteArray) (hl : xs.length < 2 ^ 40) : Ev (fun k => spec_l3Data.f k xs) (even xs) := by
  have := l3data_l xs hl xs.length 0 (by omega)
  rw [List.drop_zero] at this
  unfold spec_l3Data.f even
  cases h : xs.any (fun s => (s.size : Int) != ((xs.getD 0 ByteArray.empty).size : Int)) with
  | true => rw [h, if_pos rfl] at this; simpa using this
  | false => rw [h, if_neg (by decide)] at this; simpa using this
theorem areEqual (xs : List ByteArray) : impl_areEqual.f xs = some (even xs) := rfl
theorem even_pos {xs : List ByteArray} (h : even xs = true) : 1 ≤ xs.length ∧ xs.length ≤ 16 ∧ (xs.getD 0 ByteArray.empty).size ≤ 40 ∧ ∀ x ∈ xs, x.size = (xs.getD 0 ByteArray.empty).size := by
  unfold even at h
  rw [Bool.and_eq_true, Bool.and_eq_true] at h
  obtain ⟨h1, h2, h3⟩ := h
  have h1 := of_decide_eq_true h1
  refine ⟨h1.1, h1.2, of_decide_eq_true h2, fun x hx => ?_⟩
  have h4 : xs.any (fun s => (s.size : Int) != ((xs.getD 0 ByteArray.empty).size : Int)) = false := by simpa using h3
  have h5 := List.any_eq_false.mp h4 x hx
  simp at h5
  simp only [List.getD_eq_getElem?_getD]; omega

/-- a stripe is right, as both say it -/
def goodS (xs : List ByteArray) (p q : ByteArray) : Bool := even xs && (decide (p.size = (xs.getD 0 ByteArray.empty).size) && decide (q.size = (xs.getD 0 ByteArray.empty).size))
theorem spec_good (xs : List ByteArray) (p q : ByteArray) (hl : xs.length < 2 ^ 40) : Ev (fun k => spec_GoodStripe.f k xs p q) (goodS xs p q) := by
  unfold spec_GoodStripe.f goodS
  refine Ev.bind (l3data xs hl) ?_
  cases he : even xs with
  | false => exact evn (by decide) (Ev.now _)
  | true =>
    have hp := even_pos he
    refine evp rfl (evp (by omega) ?_)
    rw [show rdOf ByteArray.empty xs 0 = xs.getD 0 ByteArray.empty from rfl]
    by_cases h : p.size = (xs.getD 0 ByteArray.empty).size
    · refine evp (by omega) ?_
      rw [decide_eq_true h, Bool.true_and, Bool.true_and, ← h]
      by_cases h2 : q.size = p.size
      · rw [decide_eq_true h2, h2, beq_self_eq_true]; exact Ev.now _
      · rw [decide_eq_false h2, beq_eq_false_iff_ne.mpr (by omega)]; exact Ev.now _
    · refine evn (by omega) ?_
      rw [decide_eq_false h]; exact Ev.now _
theorem impl_good (xs : List ByteArray) (p q : ByteArray) : impl_GoodStripe.f xs p q = some (goodS xs p q) := by
  unfold impl_GoodStripe.f goodS
  rw [areEqual]
  simp only [Option.bind_some]
  cases he : even xs with
  | false => rfl
  | true =>
    have hp := even_pos he
    rw [if_pos rfl, if_pos (by omega), show rdOf ByteArray.empty xs 0 = xs.getD 0 ByteArray.empty from rfl]
    by_cases h : p.size = (xs.getD 0 ByteArray.empty).size
    · rw [if_pos (by omega), decide_eq_true h, Bool.true_and, Bool.true_and]
      by_cases h2 : q.size = (xs.getD 0 ByteArray.empty).size
      · rw [decide_eq_true h2, h2, beq_self_eq_true]
      · rw [decide_eq_false h2, beq_eq_false_iff_ne.mpr (by omega)]
    · rw [if_neg (by omega), decide_eq_false h]; rfl

theorem impl_mul_l (n : Nat) : ∀ (k j x o b : Nat), n + j = 8 → n < k → x < 256 → o < 256 → b < 256 →
    impl_FieldMul.l0 k (b : Int) (o : Int) (j : Int) (x : Int) = some ((gmAux n x (b / 2 ^ j) o : Nat) : Int) := by
  induction n with
  | zero =>
    intro k j x o b hj hk hx ho hb
    obtain ⟨k, rfl⟩ : ∃ m, k = m + 1 := ⟨k - 1, by omega⟩
    simp only [impl_FieldMul.l0]
    rw [if_neg (by omega)]
    show some ((o : Int) % 256) = some (o : Int)
    rw [Int.emod_eq_of_lt (by omega) (by omega)]
  | succ n ih =>
    intro k j x o b hj hk hx ho hb
    obtain ⟨k, rfl⟩ : ∃ m, k = m + 1 := ⟨k - 1, by omega⟩
    obtain ⟨q, hq⟩ : ∃ q, q = b / 2 ^ j := ⟨_, rfl⟩
    have hq2 : q < 256 := by rw [hq]; exact Nat.lt_of_le_of_lt (Nat.div_le_self _ _) hb
    have hb2 : q / 2 = b / 2 ^ (j + 1) := by rw [hq, Nat.div_div_eq_div_mul, ← Nat.pow_succ]
    have hs : shr .u8 (b : Int) (j : Int) = (q : Int) := shr_nat b j q (by omega) hq
    rw [← hq]
    simp only [gmAux]
    rw [hb2]
    have hxt := xt_lt x hx
    have hox := xor_lt _ _ ho hx
    have i1 := ih k (j + 1) (xt x) (o ^^^ x) b (by omega) (by omega) hxt hox hb
    have i2 := ih k (j + 1) (xt x) o b (by omega) (by omega) hxt ho hb
    have c1 : (j : Int) < 8 := by omega
    have c2 : (0 : Int) ≤ (j : Int) := by omega
    clear hq hb2
    simp only [impl_FieldMul.l0]
    rw [if_pos c1, if_pos c2, hs, and1_nat q hq2, dbl x hx, inc j (by omega), x285 x hx, xor_nat o x ho hx]
    clear hs
    by_cases h1 : q % 2 = 1
    · rw [if_pos (by omega), if_pos h1]
      by_cases h2 : 2 * x > 255
      · rw [if_pos (by omega), ← xt_hi x h2]; exact i1
      · rw [if_neg (by omega), ← xt_lo x h2]; exact i1
    · rw [if_neg (by omega), if_neg h1]
      by_cases h2 : 2 * x > 255
      · rw [if_pos (by omega), ← xt_hi x h2]; exact i2
      · rw [if_neg (by omega), ← xt_lo x h2]; exact i2
theorem impl_mul (k a b : Nat) (hk : 8 < k) (ha : a < 256) (hb : b < 256) : impl_FieldMul.f k (a : Int) (b : Int) = some ((gm a b : Nat) : Int) := by
  unfold impl_FieldMul.f
  rw [wr64 a (by omega)]
  have := impl_mul_l 8 k 0 a 0 b (by omega) hk ha (by omega) hb
  simpa [gm] using this

theorem spec_mul_l (n : Nat) : ∀ (k x o y : Nat), n < k → y < 2 ^ n → n ≤ 8 → x < 256 → o < 256 →
    spec_l2Mul.l0 k (o : Int) (x : Int) (y : Int) = some ((gmAux n x y o : Nat) : Int) := by
  induction n with
  | zero =>
    intro k x o y hk hy _ hx ho
    obtain ⟨k, rfl⟩ : ∃ m, k = m + 1 := ⟨k - 1, by omega⟩
    have : y = 0 := by simpa using hy
    subst this
    simp only [spec_l2Mul.l0]
    rw [if_neg (by omega)]
    show some ((o : Int) % 256) = some (o : Int)
    rw [Int.emod_eq_of_lt (by omega) (by omega)]
  | succ n ih =>
    intro k x o y hk hy hn hx ho
    obtain ⟨k, rfl⟩ : ∃ m, k = m + 1 := ⟨k - 1, by omega⟩
    simp only [spec_l2Mul.l0]
    by_cases h0 : y = 0
    · subst h0
      rw [if_neg (by omega), gmAux_zero]
      rw [Int.emod_eq_of_lt (by omega) (by omega)]
    have hp : (2 : Nat) ^ (n + 1) ≤ 256 := by
      have := Nat.pow_le_pow_right (show 0 < 2 by decide) (show n + 1 ≤ 8 by omega)
      simpa using this
    have hy2 : y / 2 < 2 ^ n := by rw [Nat.pow_succ] at hy; omega
    have hxt := xt_lt x hx
    have hox := xor_lt _ _ ho hx
    have i1 := ih k (xt x) (o ^^^ x) (y / 2) (by omega) hy2 (by omega) hxt hox
    have i2 := ih k (xt x) o (y / 2) (by omega) hy2 (by omega) hxt ho
    rw [if_pos (by omega), and1_inat y (by omega), dbl x hx, x285 x hx, xor_nat o x ho hx, show (y : Int) / 2 = ((y / 2 : Nat) : Int) by simp]
    simp only [gmAux]
    by_cases h1 : y % 2 = 1
    · rw [if_pos (by omega), if_pos h1]
      by_cases h2 : 2 * x > 255
      · rw [if_pos (by omega), ← xt_hi x h2]; exact i1
      · rw [if_neg (by omega), ← xt_lo x h2]; exact i1
    · rw [if_neg (by omega), if_neg h1]
      by_cases h2 : 2 * x > 255
      · rw [if_pos (by omega), ← xt_hi x h2]; exact i2
      · rw [if_neg (by omega), ← xt_lo x h2]; exact i2
theorem spec_mul (k a b : Nat) (hk : 8 < k) (ha : a < 256) (hb : b < 256) : spec_l2Mul.f k (a : Int) (b : Int) = some ((gm a b : Nat) : Int) := by
  unfold spec_l2Mul.f
  rw [wr64 a (by omega), wr64 b (by omega)]
  have := spec_mul_l 8 k a 0 b hk (by omega) (by omega) ha (by omega)
  simpa [gm] using this

theorem impl_pow_l (a n : Nat) (ha : a < 256) (hn : n < 2 ^ 60) (d : Nat) : ∀ (k i : Nat), i + d = n → d + 9 < k →
    impl_power.l0 k (a : Int) ((gp a i : Nat) : Int) (n : Int) (i : Int) = some ((gp a n : Nat) : Int) := by
  induction d with
  | zero =>
    intro k i hi hk
    obtain ⟨k, rfl⟩ : ∃ m, k = m + 1 := ⟨k - 1, by omega⟩
    simp only [impl_power.l0]
    rw [if_neg (by omega), show i = n by omega]
  | succ d ih =>
    intro k i hi hk
    obtain ⟨k, rfl⟩ : ∃ m, k = m + 1 := ⟨k - 1, by omega⟩
    have e2 : wrap64 ((i : Int) + 1) = ((i + 1 : Nat) : Int) := by rw [wri _ (by omega) (by omega)]; omega
    simp only [impl_power.l0]
    rw [if_pos (by omega), impl_mul k _ _ (by omega) (gp_lt a i) ha, e2]
    simp only [Option.bind_some]
    exact ih k (i + 1) (by omega) (by omega)
theorem impl_pow (k a n : Nat) (hk : n + 9 < k) (ha : a < 256) (hn : n < 2 ^ 60) : impl_power.f k (a : Int) (n : Int) = some ((gp a n : Nat) : Int) := by
  unfold impl_power.f
  exact impl_pow_l a n ha hn n k 0 (by omega) hk

theorem spec_pow_l (a N : Nat) (ha : a < 256) (hn : N < 2 ^ 60) (d : Nat) : ∀ (k : Nat), d ≤ N → d + 9 < k →
    spec_l2Pow.l0 k (a : Int) (d : Int) ((gp a (N - d) : Nat) : Int) = some ((gp a N : Nat) : Int) := by
  induction d with
  | zero =>
    intro k hd hk
    obtain ⟨k, rfl⟩ : ∃ m, k = m + 1 := ⟨k - 1, by omega⟩
    simp only [spec_l2Pow.l0]
    rw [if_neg (by omega), Nat.sub_zero]
  | succ d ih =>
    intro k hd hk
    obtain ⟨k, rfl⟩ : ∃ m, k = m + 1 := ⟨k - 1, by omega⟩
    have e2 : wrap64 (((d + 1 : Nat) : Int) - 1) = (d : Int) := by rw [wri _ (by omega) (by omega)]; omega
    simp only [spec_l2Pow.l0]
    rw [if_pos (by omega), spec_mul k _ _ (by omega) (gp_lt a _) ha, e2]
    simp only [Option.bind_some]
    have := ih k (by omega) (by omega)
    rw [show N - d = (N - (d + 1)) + 1 by omega] at this
    exact this
theorem spec_pow (k a n : Nat) (hk : n + 9 < k) (ha : a < 256) (hn : n < 2 ^ 60) : spec_l2Pow.f k (a : Int) (n : Int) = some ((gp a n : Nat) : Int) := by
  unfold spec_l2Pow.f
  have := spec_pow_l a n ha hn n k (Nat.le_refl _) hk
  rw [Nat.sub_self] at this
  exact this

theorem impl_inv (k a : Nat) (hk : 300 < k) (ha : a < 256) : impl_FieldInv.f k (a : Int) = some ((GF.inv a : Nat) : Int) := by
  unfold impl_FieldInv.f
  rw [show (254 : Int) = ((254 : Nat) : Int) from rfl, impl_pow k a 254 (by omega) ha (by omega)]
  rfl

theorem spec_inv (k a : Nat) (hk : 300 < k) (ha : a < 256) : spec_l2Inv.f k (a : Int) = some ((GF.inv a : Nat) : Int) := by
  unfold spec_l2Inv.f
  by_cases h : a = 0
  · subst h; rw [if_pos (by rfl), GF.inv_zero]; rfl
  · rw [if_neg (by omega), show (254 : Int) = ((254 : Nat) : Int) from rfl, spec_pow k a 254 (by omega) ha (by omega)]
    rfl

/-- a byte of a text -/
def bn (s : ByteArray) (j : Nat) : Nat := (bt s (j : Int)).toNat
theorem bn_lt (s : ByteArray) (j : Nat) : bn s j < 256 := by have := bt_range s (j : Int); unfold bn; omega
theorem bt_bn (s : ByteArray) (j : Nat) : bt s (j : Int) = ((bn s j : Nat) : Int) := by have := bt_range s (j : Int); unfold bn; omega
/-- a row of n numbers -/
def lst (n : Nat) (f : Nat → Nat) : List Int := (List.range n).map fun j => ((f j : Nat) : Int)
/-- a text of n bytes -/
def txt (n : Nat) (f : Nat → Nat) : ByteArray := strOfNums (lst n f)
theorem lst_len (n : Nat) (f : Nat → Nat) : (lst n f).length = n := by simp [lst]
theorem lst_at (n : Nat) (f : Nat → Nat) (j : Nat) (h : j < n) : (lst n f).getD j 0 = ((f j : Nat) : Int) := by simp [lst, List.getD_eq_getElem?_getD, h]
theorem lst_rd (n : Nat) (f : Nat → Nat) (j : Nat) (h : j < n) : rd (lst n f) (j : Int) = ((f j : Nat) : Int) := by unfold rd; rw [Int.toNat_natCast]; exact lst_at n f j h
theorem lst_congr {n : Nat} {f g : Nat → Nat} (h : ∀ j, j < n → f j = g j) : lst n f = lst n g := by
  unfold lst
  exact List.map_congr_left (fun j hj => by rw [h j (List.mem_range.mp hj)])
theorem lst_set (n : Nat) (f : Nat → Nat) (t : Nat) (v : Nat) (h : t < n) : (lst n f).set t ((v : Nat) : Int) = lst n (fun j => if j = t then v else f j) := by
  refine gext 0 (by rw [List.length_set, lst_len, lst_len]) (fun j hj => ?_)
  rw [List.length_set, lst_len] at hj
  rw [gset 0 _ _ _ _ (by rw [lst_len]; exact h), lst_at n (fun j => if j = t then v else f j) _ hj, lst_at _ _ _ hj]
  by_cases e : j = t
  · rw [if_pos e, if_pos e]
  · rw [if_neg e, if_neg e]
theorem lst_zero (n : Nat) : List.replicate n (0 : Int) = lst n (fun _ => 0) := by
  refine gext 0 (by rw [List.length_replicate, lst_len]) (fun j hj => ?_)
  rw [List.length_replicate] at hj
  rw [lst_at _ _ _ hj]
  simp [List.getD_eq_getElem?_getD, hj]
theorem txt_congr {n : Nat} {f g : Nat → Nat} (h : ∀ j, j < n → f j = g j) : txt n f = txt n g := by unfold txt; rw [lst_congr h]
theorem txt_size (n : Nat) (f : Nat → Nat) : (txt n f).size = n := by unfold txt; rw [strOfNums_size, lst_len]
theorem bt_strOf (xs : List Int) (j : Nat) (h : j < xs.length) (h0 : 0 ≤ xs.getD j 0) (h1 : xs.getD j 0 < 256) : bt (strOfNums xs) (j : Int) = xs.getD j 0 := by
  rw [List.getD_eq_getElem?_getD, List.getElem?_eq_getElem h] at h0 h1 ⊢
  simp only [Option.getD_some] at h0 h1 ⊢
  have hs : j < (strOfNums xs).size := by rw [strOfNums_size]; exact h
  unfold bt
  rw [dif_pos (by rw [Int.toNat_natCast]; exact hs)]
  simp only [Int.toNat_natCast]
  have e : (strOfNums xs)[j]'hs = UInt8.ofNat (xs[j]).toNat := by
    show (strOfNums xs).data[j]'hs = _
    simp [strOfNums]
  rw [e, UInt8.toNat_ofNat']
  omega
theorem bn_txt (n : Nat) (f : Nat → Nat) (j : Nat) (hj : j < n) (hf : f j < 256) : bn (txt n f) j = f j := by
  unfold bn txt
  rw [bt_strOf _ _ (by rw [lst_len]; exact hj) (by rw [lst_at _ _ _ hj]; omega) (by rw [lst_at _ _ _ hj]; omega), lst_at _ _ _ hj, Int.toNat_natCast]
theorem txt_xr (n : Nat) (p : ByteArray) (f : Nat → Nat) (hf : ∀ j, f j < 256) : (txt n fun j => bn p j ^^^ bn (txt n f) j) = txt n fun j => bn p j ^^^ f j := txt_congr (fun j hj => by show bn p j ^^^ bn (txt n f) j = _; rw [bn_txt n f j hj (hf j)])
theorem txt_gr (n c : Nat) (f : Nat → Nat) (hf : ∀ j, f j < 256) : (txt n fun j => gm c (bn (txt n f) j)) = txt n fun j => gm c (f j) := txt_congr (fun j hj => by show gm c (bn (txt n f) j) = _; rw [bn_txt n f j hj (hf j)])
theorem txt_fr (n : Nat) (g f : Nat → Nat) (hf : ∀ j, f j < 256) : (txt n fun j => g j ^^^ bn (txt n f) j) = txt n fun j => g j ^^^ f j := txt_congr (fun j hj => by show g j ^^^ bn (txt n f) j = _; rw [bn_txt n f j hj (hf j)])

theorem impl_xors (a b : ByteArray) (h : a.size ≤ b.size) (h2 : a.size ≤ 2 ^ 40) : impl_xor.f a b = some (txt a.size fun j => bn a j ^^^ bn b j) := by
  unfold impl_xor.f txt lst
  rw [if_pos ⟨h, by omega⟩]
  congr 2
  refine List.map_congr_left (fun j _ => ?_)
  rw [bt_bn, bt_bn]
  exact xor_u8 _ _ (bn_lt a j) (bn_lt b j)
theorem impl_xort (n : Nat) (f : Nat → Nat) (b : ByteArray) (hf : ∀ j, f j < 256) (h : n ≤ b.size) (h2 : n ≤ 2 ^ 40) : impl_xor.f (txt n f) b = some (txt n fun j => f j ^^^ bn b j) := by
  rw [impl_xors _ _ (by rw [txt_size]; exact h) (by rw [txt_size]; exact h2), txt_size]
  rw [txt_congr (fun j hj => by rw [bn_txt n f j hj (hf j)])]
theorem ev_weighed (s : ByteArray) (i : Nat) (hs : s.size ≤ 2 ^ 40) (hi : i < 2 ^ 40) : Ev (fun k => impl_weighed.f k s (i : Int)) (txt s.size fun j => gm (ex i) (bn s j)) := ev_of (i + 400) fun k hk => by
  unfold impl_weighed.f txt lst
  rw [if_pos (by omega), show (2 : Int) = ((2 : Nat) : Int) from rfl, impl_pow k 2 i (by omega) (by omega) (by omega), gp_two]
  simp only [Option.bind_some]
  rw [Bytes.allOf_of (f := fun j => ((gm (ex i) (bn s j) : Nat) : Int)) s.size (fun j _ => by rw [bt_bn, impl_mul k _ _ (by omega) (bn_lt s j) (ex_lt i), gm_comm _ _ (bn_lt s j) (ex_lt i)])]
  rfl

theorem even_all {xs : List ByteArray} {n : Nat} (h : even xs = true) (hn : n = (xs.getD 0 ByteArray.empty).size) : 1 ≤ xs.length ∧ xs.length ≤ 16 ∧ n ≤ 40 ∧ ∀ x ∈ xs, x.size = n := by subst hn; exact even_pos h

/-- P and Q of texts, byte by byte -/
def pP : List ByteArray → Nat → Nat
  | [], _ => 0
  | s :: l, j => bn s j ^^^ pP l j
def pQ : List ByteArray → Nat → Nat → Nat
  | [], _, _ => 0
  | s :: l, i, j => gm (ex i) (bn s j) ^^^ pQ l (i + 1) j
theorem pP_lt (l : List ByteArray) (j : Nat) : pP l j < 256 := by
  induction l with
  | nil => exact Nat.zero_lt_succ _
  | cons s l ih => exact xor_lt _ _ (bn_lt s j) ih
theorem pQ_lt (l : List ByteArray) : ∀ i j : Nat, pQ l i j < 256 := by
  induction l with
  | nil => intro i j; exact Nat.zero_lt_succ _
  | cons s l ih => intro i j; exact xor_lt _ _ (gm_lt _ _ (ex_lt i)) (ih _ _)
theorem drop_at (xs : List ByteArray) (i : Nat) (h : i < xs.length) : xs.drop i = xs.getD i ByteArray.empty :: xs.drop (i + 1) := by
  rw [List.drop_eq_getElem_cons h]; simp [List.getD_eq_getElem?_getD, h]
theorem impl_par_l (n : Nat) (hn : n ≤ 2 ^ 40) (xs : List ByteArray) (hx : ∀ x ∈ xs, x.size = n) (hl : xs.length < 2 ^ 40) (d : Nat) : ∀ (i : Nat) (f g : Nat → Nat), i + d = xs.length → (∀ j, f j < 256) → (∀ j, g j < 256) →
    Ev (fun k => impl_parities.l0 k (txt n f) (txt n g) xs (xs.length : Int) (i : Int)) (txt n fun j => f j ^^^ pP (xs.drop i) j, txt n fun j => g j ^^^ pQ (xs.drop i) i j) := by
  induction d with
  | zero =>
    intro i f g hi hf hg
    rw [List.drop_eq_nil_of_le (by omega)]
    simp only [pP, pQ, Nat.xor_zero]
    exact Ev.step (fun k => by simp only [impl_parities.l0]; rw [if_neg (by omega)]) (Ev.now _)
  | succ d ih =>
    intro i f g hi hf hg
    have hs := hx _ (gmem ByteArray.empty (show i < xs.length by omega))
    rw [drop_at xs i (by omega)]
    simp only [pP, pQ]
    refine Ev.step (fun k => by simp only [impl_parities.l0]; rw [if_pos (by omega), if_pos (by omega), if_pos (by omega), rdOf_nat, inc i (by omega)]) ?_
    refine ev_to_some (impl_xort n f _ hf (by omega) hn) (Ev.bind (ev_weighed _ i (by omega) (by omega)) ?_)
    rw [hs]
    refine ev_to_some (impl_xort n g _ hg (by rw [txt_size]; exact Nat.le_refl _) hn) ?_
    have h := ih (i + 1) (fun j => f j ^^^ bn (xs.getD i ByteArray.empty) j) (fun j => g j ^^^ gm (ex i) (bn (xs.getD i ByteArray.empty) j)) (by omega) (fun j => xor_lt _ _ (hf j) (bn_lt _ j)) (fun j => xor_lt _ _ (hg j) (gm_lt _ _ (ex_lt i)))
    simp only [Nat.xor_assoc] at h
    rw [txt_congr (f := fun j => g j ^^^ bn (txt n fun j => gm (ex i) (bn (xs.getD i ByteArray.empty) j)) j) (g := fun j => g j ^^^ gm (ex i) (bn (xs.getD i ByteArray.empty) j)) (fun j hj => by rw [bn_txt n (fun j => gm (ex i) (bn (xs.getD i ByteArray.empty) j)) j hj (gm_lt _ _ (ex_lt i))])]
    exact h
theorem impl_par {xs : List ByteArray} {n : Nat} (h : even xs = true) (hn : n = (xs.getD 0 ByteArray.empty).size) : Ev (fun k => impl_parities.f k xs) (txt n (pP xs), txt n (pQ xs 0)) := by
  have he := even_all h hn
  unfold impl_parities.f
  rw [show rdOf ByteArray.empty xs 0 = xs.getD 0 ByteArray.empty from rfl, ← hn]
  refine evp (by omega) (evp (by omega) (evp (by omega) (ev_some ?_)))
  rw [Int.toNat_natCast, lst_zero]
  have h2 := impl_par_l n (by omega) xs he.2.2.2 (by omega) xs.length 0 (fun _ => 0) (fun _ => 0) (by omega) (fun _ => by decide) (fun _ => by decide)
  simp only [Nat.zero_xor, List.drop_zero] at h2
  exact h2
theorem ev_smul (a b : Nat) (ha : a < 256) (hb : b < 256) : Ev (fun k => spec_l2Mul.f k (a : Int) (b : Int)) ((gm a b : Nat) : Int) := ev_of 20 fun k hk => spec_mul k a b (by omega) ha hb
theorem ev_smul2 (a : Nat) (ha : a < 256) : Ev (fun k => spec_l2Mul.f k (a : Int) 2) ((xt a : Nat) : Int) := by have h := ev_smul a 2 ha (by decide); rw [gm_two a ha] at h; exact h
theorem lst_mid (n : Nat) (f u : Nat → Nat) (t : Nat) : lst n (fun j => if t + 1 ≤ j then (if j = t then f t ^^^ u t else f j) ^^^ u j else if j = t then f t ^^^ u t else f j) = lst n (fun j => if t ≤ j then f j ^^^ u j else f j) := by
  refine lst_congr (fun j hj => ?_)
  by_cases h1 : j = t
  · subst h1; rw [if_neg (by omega), if_pos rfl, if_pos (Nat.le_refl _)]
  · by_cases h2 : t ≤ j
    · rw [if_pos (by omega), if_pos h2, if_neg h1]
    · rw [if_neg (by omega), if_neg h2, if_neg h1]
theorem spec_par_in (n : Nat) (hn : n ≤ 2 ^ 40) (c : Nat) (hc : c < 256) (s : ByteArray) (hs : s.size = n) (xs : List ByteArray) (L I : Int) (r : ByteArray × ByteArray) (d : Nat) : ∀ (t : Nat) (f g : Nat → Nat), t + d = n → (∀ j, f j < 256) → (∀ j, g j < 256) →
    Ev (fun k => spec_l3Parities.l0 k (lst n fun j => if t ≤ j then f j ^^^ bn s j else f j) (lst n fun j => if t ≤ j then g j ^^^ gm c (bn s j) else g j) ((xt c : Nat) : Int) xs L (wrap64 (I + 1))) r →
    Ev (fun k => spec_l3Parities.l1 k (lst n f) (lst n g) (c : Int) s xs L I (n : Int) (t : Int)) r := by
  induction d with
  | zero =>
    intro t f g ht hf hg h
    refine Ev.step (fun k => by simp only [spec_l3Parities.l1]; rw [if_neg (by omega)]) (Ev.bind (ev_smul2 c hc) ?_)
    rw [lst_congr (f := fun j => if t ≤ j then f j ^^^ bn s j else f j) (g := f) (fun j hj => if_neg (by omega)), lst_congr (f := fun j => if t ≤ j then g j ^^^ gm c (bn s j) else g j) (g := g) (fun j hj => if_neg (by omega))] at h
    exact h
  | succ d ih =>
    intro t f g ht hf hg h
    have e1 : Go.bits .xor .u8 (rd (lst n f) (t : Int)) (bt s (t : Int)) = ((f t ^^^ bn s t : Nat) : Int) := by rw [lst_rd n f t (by omega), bt_bn]; exact xor_u8 _ _ (hf t) (bn_lt s t)
    have e2 : Go.bits .xor .u8 (rd (lst n g) (t : Int)) ((gm c (bn s t) : Nat) : Int) = ((g t ^^^ gm c (bn s t) : Nat) : Int) := by rw [lst_rd n g t (by omega)]; exact xor_u8 _ _ (hg t) (gm_lt _ _ hc)
    refine Ev.step (fun k => by simp only [spec_l3Parities.l1]; rw [if_pos (by omega), if_pos (by omega), if_pos (by rw [lst_len]; omega), if_pos (by omega), if_pos (by rw [lst_len]; omega), e1, bt_bn, Int.toNat_natCast, lst_set n f t _ (by omega), inc t (by omega)]) ?_
    refine Ev.bind (ev_smul c (bn s t) hc (bn_lt s t)) ?_
    rw [e2, lst_set n g t _ (by omega)]
    refine ih (t + 1) _ _ (by omega) (fun j => ?_) (fun j => ?_) ?_
    · split
      · exact xor_lt _ _ (hf t) (bn_lt s t)
      · exact hf j
    · split
      · exact xor_lt _ _ (hg t) (gm_lt _ _ hc)
      · exact hg j
    · have ea := lst_mid n f (bn s) t
      have eb := lst_mid n g (fun j => gm c (bn s j)) t
      rw [ea, eb]
      exact h
theorem spec_par_l (n : Nat) (hn : n ≤ 2 ^ 40) (xs : List ByteArray) (hx : ∀ x ∈ xs, x.size = n) (hl : xs.length < 2 ^ 40) (d : Nat) : ∀ (i : Nat) (f g : Nat → Nat), i + d = xs.length → (∀ j, f j < 256) → (∀ j, g j < 256) →
    Ev (fun k => spec_l3Parities.l0 k (lst n f) (lst n g) ((ex i : Nat) : Int) xs (xs.length : Int) (i : Int)) (txt n fun j => f j ^^^ pP (xs.drop i) j, txt n fun j => g j ^^^ pQ (xs.drop i) i j) := by
  induction d with
  | zero =>
    intro i f g hi hf hg
    rw [List.drop_eq_nil_of_le (by omega)]
    simp only [pP, pQ, Nat.xor_zero]
    exact Ev.step (fun k => by simp only [spec_l3Parities.l0]; rw [if_neg (by omega)]; rfl) (Ev.now _)
  | succ d ih =>
    intro i f g hi hf hg
    have hs := hx _ (gmem ByteArray.empty (show i < xs.length by omega))
    rw [drop_at xs i (by omega)]
    simp only [pP, pQ]
    refine Ev.step (fun k => by simp only [spec_l3Parities.l0]; rw [if_pos (by omega), if_pos (by omega), if_pos (by omega), rdOf_nat, lst_len]) ?_
    refine spec_par_in n hn (ex i) (ex_lt i) _ hs xs _ _ _ n 0 f g (by omega) hf hg ?_
    rw [inc i (by omega)]
    have h := ih (i + 1) (fun j => f j ^^^ bn (xs.getD i ByteArray.empty) j) (fun j => g j ^^^ gm (ex i) (bn (xs.getD i ByteArray.empty) j)) (by omega) (fun j => xor_lt _ _ (hf j) (bn_lt _ j)) (fun j => xor_lt _ _ (hg j) (gm_lt _ _ (ex_lt i)))
    simp only [Nat.xor_assoc] at h
    simp only [Nat.zero_le, if_true]
    exact h
theorem spec_par {xs : List ByteArray} {n : Nat} (h : even xs = true) (hn : n = (xs.getD 0 ByteArray.empty).size) : Ev (fun k => spec_l3Parities.f k xs) (txt n (pP xs), txt n (pQ xs 0)) := by
  have he := even_all h hn
  unfold spec_l3Parities.f
  rw [show rdOf ByteArray.empty xs 0 = xs.getD 0 ByteArray.empty from rfl, ← hn]
  refine evp (by omega) (evp (by omega) (evp (by omega) ?_))
  rw [Int.toNat_natCast, lst_zero]
  have h2 := spec_par_l n (by omega) xs he.2.2.2 (by omega) xs.length 0 (fun _ => 0) (fun _ => 0) (by omega) (fun _ => by decide) (fun _ => by decide)
  simp only [Nat.zero_xor, List.drop_zero] at h2
  exact h2

theorem good_even {xs : List ByteArray} {p q : ByteArray} (h : goodS xs p q = true) : even xs = true := by
  unfold goodS at h; rw [Bool.and_eq_true] at h; exact h.1

theorem isDisk (xs : List ByteArray) (p q : ByteArray) (a : Int) (hx : xs.length < 2 ^ 40) : impl_isDisk.f xs p q a = some (goodS xs p q && decide (a ≥ 0 ∧ a ≤ (xs.length : Int) + 1)) := by
  have w1 : wrap64 ((xs.length : Int) + 1) = (xs.length : Int) + 1 := by unfold wrap64; omega
  unfold impl_isDisk.f
  rw [impl_good]
  cases hg : goodS xs p q with
  | false => rfl
  | true =>
    simp only [Option.bind_some, if_true, Bool.true_and]
    rw [within_tells, w1]
    rfl

theorem clone (xs : List ByteArray) (hl : xs.length < 2 ^ 40) : slices_Clone_string_string.f xs = some xs := by unfold slices_Clone_string_string.f; rw [if_pos (by omega)]

theorem own (xs : List ByteArray) (p q : ByteArray) (hl : xs.length < 2 ^ 40) : spec_l3Own.f xs p q = some (xs, p, q) := by
  unfold spec_l3Own.f
  simp only [Option.bind_some, List.nil_append, List.length_nil]
  rw [if_pos (by omega)]
theorem good_all {xs : List ByteArray} {p q : ByteArray} {n : Nat} (h : goodS xs p q = true) (hn : n = (xs.getD 0 ByteArray.empty).size) : p.size = n ∧ q.size = n ∧ 1 ≤ xs.length ∧ xs.length ≤ 16 ∧ n ≤ 40 ∧ ∀ x ∈ xs, x.size = n := by
  have he := even_all (good_even h) hn
  unfold goodS at h
  rw [Bool.and_eq_true, Bool.and_eq_true] at h
  have h1 := of_decide_eq_true h.2.1
  have h2 := of_decide_eq_true h.2.2
  exact ⟨by rw [hn]; exact h1, by rw [hn]; exact h2, he⟩
theorem spec_xors (a b : ByteArray) (h : a.size ≤ b.size) (h2 : a.size ≤ 2 ^ 40) : spec_l3Xor.f a b = some (txt a.size fun j => bn a j ^^^ bn b j) := impl_xors a b h h2
theorem spec_xort (n : Nat) (f : Nat → Nat) (b : ByteArray) (hf : ∀ j, f j < 256) (h : n ≤ b.size) (h2 : n ≤ 2 ^ 40) : spec_l3Xor.f (txt n f) b = some (txt n fun j => f j ^^^ bn b j) := impl_xort n f b hf h h2

theorem ev_times (c : Nat) (hc : c < 256) (s : ByteArray) (hs : s.size ≤ 2 ^ 40) : Ev (fun k => spec_l3Times.f k (c : Int) s) (txt s.size fun j => gm c (bn s j)) := ev_of 400 fun k hk => by
  unfold spec_l3Times.f txt lst
  rw [if_pos (by omega), Bytes.allOf_of (f := fun j => ((gm c (bn s j) : Nat) : Int)) s.size (fun j _ => by rw [bt_bn, spec_mul k _ _ (by omega) hc (bn_lt s j)])]
  rfl
theorem ev_pow2 (i : Nat) (hi : i < 2 ^ 40) : Ev (fun k => spec_l2Pow.f k 2 (i : Int)) ((ex i : Nat) : Int) := ev_of (i + 40) fun k hk => by
  rw [show (2 : Int) = ((2 : Nat) : Int) from rfl, spec_pow k 2 i (by omega) (by omega) (by omega), gp_two]

/-- a disk's text is blanked -/
def zer (n : Nat) : ByteArray := txt n fun _ => 0
def blank (xs : List ByteArray) (n l : Nat) : List ByteArray := if l < xs.length then xs.set l (zer n) else xs
theorem blank_len (xs : List ByteArray) (n l : Nat) : (blank xs n l).length = xs.length := by unfold blank; split <;> simp
theorem zeros (n : Nat) : strOfNums (List.replicate n 0) = zer n := by rw [lst_zero]; rfl
theorem wo_nil (xs : List ByteArray) (p q : ByteArray) (hl : xs.length < 2 ^ 40) : Ev (fun k => impl_without.f k xs p q ([] : List Int)) (xs, p, q) := by
  unfold impl_without.f
  refine ev_to_some (clone xs hl) ?_
  exact Ev.step (fun k => by simp only [impl_without.l0]; rw [if_neg (by simp)]) (Ev.now _)
/-- one step of the loop over the disks -/
theorem wo_step (xs : List ByteArray) (p q : ByteArray) (L : List Int) (i l : Nat) (ys : List ByteArray) (r : List ByteArray × ByteArray × ByteArray) (hL : L.length < 2 ^ 40) (hi : i < L.length) (hl : rd L (i : Int) = (l : Int)) (hp : p.size < 2 ^ 40) (hys : ys.length = xs.length)
    (h : Ev (fun k => impl_without.l0 k L (L.length : Int) ((i + 1 : Nat) : Int) xs p q (blank ys p.size l) p q) r) : Ev (fun k => impl_without.l0 k L (L.length : Int) (i : Int) xs p q ys p q) r := by
  by_cases hlt : l < xs.length
  · refine Ev.step (fun k => ?_) h
    simp only [impl_without.l0]
    rw [if_pos (by omega), if_pos (by omega), if_pos (by omega), hl, if_pos (by omega), if_pos (by omega), if_pos (by omega), if_pos (by omega), if_pos (by omega), Int.toNat_natCast, Int.toNat_natCast, zeros, inc i (by omega)]
    unfold blank
    rw [if_pos (by omega)]
  · refine Ev.step (fun k => ?_) h
    simp only [impl_without.l0]
    rw [if_pos (by omega), if_pos (by omega), if_pos (by omega), hl, if_neg (by omega), inc i (by omega)]
    unfold blank
    rw [if_neg (by omega)]
theorem wo_end (xs : List ByteArray) (p q : ByteArray) (L : List Int) (i : Nat) (ys : List ByteArray) (hi : i = L.length) : Ev (fun k => impl_without.l0 k L (L.length : Int) (i : Int) xs p q ys p q) (ys, p, q) := by
  subst hi
  exact Ev.step (fun k => by simp only [impl_without.l0]; rw [if_neg (by omega)]) (Ev.now _)
theorem wo_one (xs : List ByteArray) (p q : ByteArray) (l : Nat) (hl : xs.length < 2 ^ 40) (hp : p.size < 2 ^ 40) : Ev (fun k => impl_without.f k xs p q ([(l : Int)] : List Int)) (blank xs p.size l, p, q) := by
  unfold impl_without.f
  refine ev_to_some (clone xs hl) ?_
  exact wo_step xs p q [(l : Int)] 0 l xs _ (by simp) (by simp) rfl hp rfl (wo_end xs p q [(l : Int)] 1 _ rfl)

theorem even_of {xs : List ByteArray} {n : Nat} (h1 : 1 ≤ xs.length) (h2 : xs.length ≤ 16) (h3 : n ≤ 40) (h4 : ∀ x ∈ xs, x.size = n) : even xs = true ∧ n = (xs.getD 0 ByteArray.empty).size := by
  have h0 : (xs.getD 0 ByteArray.empty).size = n := h4 _ (gmem ByteArray.empty (by omega))
  refine ⟨?_, h0.symm⟩
  unfold even
  rw [Bool.and_eq_true, Bool.and_eq_true]
  refine ⟨decide_eq_true ⟨h1, h2⟩, decide_eq_true (by omega), ?_⟩
  rw [Bool.not_eq_true', List.any_eq_false]
  intro x hx
  rw [h4 x hx, h0]
  simp
theorem blank_all {xs : List ByteArray} {n : Nat} (l : Nat) (h4 : ∀ x ∈ xs, x.size = n) : ∀ x ∈ blank xs n l, x.size = n := by
  intro x hx
  unfold blank at hx
  split at hx
  · rcases List.mem_or_eq_of_mem_set hx with h | h
    · exact h4 x h
    · rw [h]; exact txt_size _ _
  · exact h4 x hx
/-- one disk brought back -/
def one (xs : List ByteArray) (p q : ByteArray) (n l : Nat) : List ByteArray × ByteArray × ByteArray :=
  if l < xs.length then ((blank xs n l).set l (txt n fun j => pP (blank xs n l) j ^^^ bn p j), p, q)
  else if l = xs.length then (blank xs n l, txt n (pP (blank xs n l)), q) else (blank xs n l, p, txt n (pQ (blank xs n l) 0))

section
variable {xs : List ByteArray} {n : Nat} (h1 : 1 ≤ xs.length) (h2 : xs.length ≤ 16) (h3 : n ≤ 40) (h4 : ∀ x ∈ xs, x.size = n)
include h1 h2 h3 h4
theorem spec_one (p q : ByteArray) (l : Nat) (hp : p.size = n) (hq : q.size ≤ 2 ^ 40) (hl : l ≤ xs.length + 1) : Ev (fun k => spec_l3One.f k xs p q (l : Int)) (one xs p q n l) := by
  obtain ⟨he, hn⟩ := even_of (xs := blank xs n l) (by rw [blank_len]; exact h1) (by rw [blank_len]; exact h2) h3 (blank_all l h4)
  have hz : ∀ m : Nat, m ≤ 2 ^ 40 → spec_l1Zeros.f (m : Int) = some (zer m) := fun m hm => by
    unfold spec_l1Zeros.f
    rw [if_pos (by omega), if_pos (by omega), Int.toNat_natCast, zeros]
  unfold spec_l3One.f one
  by_cases c1 : l < xs.length
  · have hb : spec_l3Blank.f xs p q (l : Int) = some (blank xs n l, p, q) := by
      unfold spec_l3Blank.f
      rw [own xs p q (by omega)]
      simp only [Option.bind_some]
      rw [if_pos (by omega), hz p.size (by omega)]
      simp only [Option.bind_some]
      rw [if_pos (by omega), Int.toNat_natCast, hp]
      unfold blank
      rw [if_pos c1]
    rw [if_pos c1]
    refine ev_to_some hb (Ev.bind (spec_par he hn) (evp (by rw [blank_len]; omega) (ev_to_some (spec_xort n _ p (pP_lt _) (by omega) (by omega)) (evp (by omega) ?_))))
    rw [Int.toNat_natCast]
    exact Ev.now _
  · have hbl : blank xs n l = xs := by unfold blank; rw [if_neg c1]
    rw [if_neg c1]
    by_cases c2 : l = xs.length
    · have hb : spec_l3Blank.f xs p q (l : Int) = some (blank xs n l, zer n, q) := by
        unfold spec_l3Blank.f
        rw [own xs p q (by omega)]
        simp only [Option.bind_some]
        rw [if_neg (by omega), if_pos (by omega), hz p.size (by omega), hp, hbl]
        rfl
      rw [if_pos c2]
      exact ev_to_some hb (Ev.bind (spec_par he hn) (evn (by rw [blank_len]; omega) (evp (by rw [blank_len]; omega) (Ev.now _))))
    · have hb : spec_l3Blank.f xs p q (l : Int) = some (blank xs n l, p, zer q.size) := by
        unfold spec_l3Blank.f
        rw [own xs p q (by omega)]
        simp only [Option.bind_some]
        rw [if_neg (by omega), if_neg (by omega), hz q.size (by omega), hbl]
        rfl
      rw [if_neg c2]
      exact ev_to_some hb (Ev.bind (spec_par he hn) (evn (by rw [blank_len]; omega) (evn (by rw [blank_len]; omega) (Ev.now _))))
end

set_option linter.unusedSectionVars false
theorem ev_divided (s : ByteArray) (c : Nat) (hc : c < 256) (hs : s.size ≤ 2 ^ 40) : Ev (fun k => impl_divided.f k s (c : Int)) (txt s.size fun j => gm (GF.inv c) (bn s j)) := ev_of 400 fun k hk => by
  unfold impl_divided.f txt lst
  rw [if_pos (by omega), impl_inv k c (by omega) hc]
  simp only [Option.bind_some]
  rw [Bytes.allOf_of (f := fun j => ((gm (GF.inv c) (bn s j) : Nat) : Int)) s.size (fun j _ => by rw [bt_bn, impl_mul k _ _ (by omega) (bn_lt s j) (inv_lt c), gm_comm _ _ (bn_lt s j) (inv_lt c)])]
  rfl
theorem ev_ipow2 (i : Nat) (hi : i < 2 ^ 40) : Ev (fun k => impl_power.f k 2 (i : Int)) ((ex i : Nat) : Int) := ev_of (i + 40) fun k hk => by
  rw [show (2 : Int) = ((2 : Nat) : Int) from rfl, impl_pow k 2 i (by omega) (by omega) (by omega), gp_two]
theorem ev_sinv (a : Nat) (ha : a < 256) : Ev (fun k => spec_l2Inv.f k (a : Int)) ((GF.inv a : Nat) : Int) := ev_of 400 fun k hk => spec_inv k a (by omega) ha
theorem wo_two (xs : List ByteArray) (p q : ByteArray) (a b : Nat) (hl : xs.length < 2 ^ 40) (hp : p.size < 2 ^ 40) : Ev (fun k => impl_without.f k xs p q ([(a : Int), (b : Int)] : List Int)) (blank (blank xs p.size a) p.size b, p, q) := by
  unfold impl_without.f
  refine ev_to_some (clone xs hl) ?_
  exact wo_step xs p q [(a : Int), (b : Int)] 0 a xs _ (by simp) (by simp) rfl hp rfl (wo_step xs p q [(a : Int), (b : Int)] 1 b _ _ (by simp) (by simp) rfl hp (blank_len _ _ _) (wo_end xs p q [(a : Int), (b : Int)] 2 _ rfl))
theorem blank_off (xs : List ByteArray) (n l : Nat) (h : xs.length ≤ l) : blank xs n l = xs := by unfold blank; rw [if_neg (by omega)]
theorem blank_twice (xs : List ByteArray) (n l : Nat) : blank (blank xs n l) n l = blank xs n l := by
  by_cases h : l < xs.length
  · unfold blank
    rw [if_pos h, if_pos (by rw [List.length_set]; exact h), List.set_set]
  · rw [blank_off xs n l (by omega), blank_off xs n l (by omega)]
theorem set_all {xs : List ByteArray} {n : Nat} (l : Nat) (f : Nat → Nat) (h4 : ∀ x ∈ xs, x.size = n) : ∀ x ∈ xs.set l (txt n f), x.size = n := by
  intro x hx
  rcases List.mem_or_eq_of_mem_set hx with h | h
  · exact h4 x h
  · rw [h]; exact txt_size _ _
/-- two disks brought back -/
def two (xs : List ByteArray) (p q : ByteArray) (n a b : Nat) : List ByteArray × ByteArray × ByteArray :=
  let ys := blank (blank xs n a) n b
  if a = xs.length then (ys, txt n (pP ys), txt n (pQ ys 0))
  else if b = xs.length then
    let zs := ys.set a (txt n fun j => gm (GF.inv (ex a)) (pQ ys 0 j ^^^ bn q j))
    (zs, txt n (pP zs), q)
  else if b = xs.length + 1 then
    let zs := ys.set a (txt n fun j => pP ys j ^^^ bn p j)
    (zs, p, txt n (pQ zs 0))
  else
    ((ys.set a (txt n fun j => gm (GF.inv (ex a ^^^ ex b)) ((pQ ys 0 j ^^^ bn q j) ^^^ gm (ex b) (pP ys j ^^^ bn p j)))).set b
      (txt n fun j => (pP ys j ^^^ bn p j) ^^^ gm (GF.inv (ex a ^^^ ex b)) ((pQ ys 0 j ^^^ bn q j) ^^^ gm (ex b) (pP ys j ^^^ bn p j))), p, q)
theorem two_len (xs : List ByteArray) (p q : ByteArray) (n a b : Nat) : (two xs p q n a b).1.length = xs.length := by
  unfold two
  simp only []
  split
  · simp only [blank_len]
  · split
    · simp only [List.length_set, blank_len]
    · split <;> simp only [List.length_set, blank_len]
section
variable {xs : List ByteArray} {n : Nat} (h1 : 1 ≤ xs.length) (h2 : xs.length ≤ 16) (h3 : n ≤ 40) (h4 : ∀ x ∈ xs, x.size = n)
include h1 h2 h3 h4
theorem impl_two_end (p q : ByteArray) (a b : Nat) (hab : a < b) (hb : b < xs.length) (ys : List ByteArray) (hyl : ys.length = xs.length) (B Q : Nat → Nat) (hBo : ∀ j, B j < 256) (hQo : ∀ j, Q j < 256) :
    Ev (fun k => (impl_weighed.f k (txt n B) (b : Int)).bind fun t307 => ((impl_xor.f (txt n Q) t307).bind fun t308 => ((impl_power.f k 2 (a : Int)).bind fun t309 => ((impl_power.f k 2 (b : Int)).bind fun t310 => ((impl_divided.f k t308 (Go.bits .xor .u8 t309 t310)).bind fun t311 => (if 0 ≤ (a : Int) then (if (a : Int) < (ys.length : Int) then ((some (ys.set (a : Int).toNat t311 : List ByteArray)).bind fun y312 => ((impl_xor.f (txt n B) (rdOf ByteArray.empty y312 (a : Int))).bind fun t314 => (if 0 ≤ (b : Int) then (if (b : Int) < (ys.length : Int) then (some ((y312.set (b : Int).toNat t314), p, q, true)) else (none)) else (none)))) else (none)) else (none)))))))
    ((ys.set a (txt n fun j => gm (GF.inv (ex a ^^^ ex b)) (Q j ^^^ gm (ex b) (B j)))).set b (txt n fun j => B j ^^^ gm (GF.inv (ex a ^^^ ex b)) (Q j ^^^ gm (ex b) (B j))), p, q, true) := by
  have hwe := ev_weighed (txt n B) b (by rw [txt_size]; omega) (by omega)
  rw [txt_size, txt_gr n _ _ hBo] at hwe
  have hT : ∀ j, Q j ^^^ gm (ex b) (B j) < 256 := fun j => xor_lt _ _ (hQo j) (gm_lt _ _ (ex_lt b))
  have hD : ∀ j, gm (GF.inv (ex a ^^^ ex b)) (Q j ^^^ gm (ex b) (B j)) < 256 := fun j => gm_lt _ _ (inv_lt _)
  have x1 := impl_xort n Q (txt n fun j => gm (ex b) (B j)) hQo (by rw [txt_size]; omega) (by omega)
  rw [txt_fr n _ _ (fun j => gm_lt _ _ (ex_lt b))] at x1
  have hd := ev_divided (txt n fun j => Q j ^^^ gm (ex b) (B j)) (ex a ^^^ ex b) (xor_lt _ _ (ex_lt a) (ex_lt b)) (by rw [txt_size]; omega)
  rw [txt_size, txt_gr n _ _ hT] at hd
  have x2 := impl_xort n B (txt n fun j => gm (GF.inv (ex a ^^^ ex b)) (Q j ^^^ gm (ex b) (B j))) hBo (by rw [txt_size]; omega) (by omega)
  rw [txt_fr n _ _ hD] at x2
  refine Ev.bind hwe (ev_to_some x1 (Ev.bind (ev_ipow2 a (by omega)) (Ev.bind (ev_ipow2 b (by omega)) ?_)))
  rw [xor_u8 _ _ (ex_lt a) (ex_lt b)]
  refine Ev.bind hd (evp (by omega) (evp (by omega) (ev_some ?_)))
  rw [Int.toNat_natCast, Int.toNat_natCast, rdOf_nat, gset _ _ _ _ _ (by omega), if_pos rfl]
  exact ev_to_some x2 (evp (by omega) (evp (by omega) (Ev.now _)))
theorem impl_two (p q : ByteArray) (a b : Nat) (hp : p.size = n) (hq : q.size = n) (hab : a < b) (hb : b ≤ xs.length + 1) :
    Ev (fun k => impl_RecoverTwo.j0 k (a : Int) (b : Int) false xs p q) ((two xs p q n a b).1, (two xs p q n a b).2.1, (two xs p q n a b).2.2, true) ∧
    Ev (fun k => impl_RecoverTwo.j0 k (b : Int) (a : Int) false xs p q) ((two xs p q n a b).1, (two xs p q n a b).2.1, (two xs p q n a b).2.2, true) := by
  have main : ∀ u v : Int, mn u v = (a : Int) → mx u v = (b : Int) → Ev (fun k => impl_RecoverTwo.j0 k u v false xs p q) ((two xs p q n a b).1, (two xs p q n a b).2.1, (two xs p q n a b).2.2, true) := by
    intro u v hu hv
    have w1 : wrap64 ((xs.length : Int) + 1) = (xs.length : Int) + 1 := by unfold wrap64; omega
    refine Ev.step (fun k => by simp only [impl_RecoverTwo.j0]; rw [if_neg (by decide), hu, hv, w1]) ?_
    have hw := wo_two xs p q a b (by omega) (by omega)
    rw [hp] at hw
    have hys := blank_all b (blank_all a h4)
    have hyl : (blank (blank xs n a) n b).length = xs.length := by rw [blank_len, blank_len]
    unfold two
    simp only []
    refine Ev.bind hw ?_
    show Ev (fun k => (impl_parities.f k (blank (blank xs n a) n b)).bind _) _
    generalize hY : blank (blank xs n a) n b = ys at hys hyl
    obtain ⟨he, hn⟩ := even_of (xs := ys) (by omega) (by omega) h3 hys
    refine Ev.bind (impl_par he hn) ?_
    by_cases c1 : a = xs.length
    · rw [if_pos c1]
      exact evp (by omega) (Ev.now _)
    · rw [if_neg c1]
      refine evn (by omega) ?_
      by_cases c2 : b = xs.length
      · rw [if_pos c2]
        refine evp (by omega) (ev_to_some (impl_xort n _ q (pQ_lt _ 0) (by omega) (by omega)) (Ev.bind (ev_ipow2 a (by omega)) ?_))
        have hd := ev_divided (txt n fun j => pQ ys 0 j ^^^ bn q j) (ex a) (ex_lt a) (by rw [txt_size]; omega)
        rw [txt_size, txt_gr n _ _ (fun j => xor_lt _ _ (pQ_lt _ _ _) (bn_lt q j))] at hd
        refine Ev.bind hd (evp (by omega) (evp (by show (a : Int) < (ys.length : Int); omega) (ev_some ?_)))
        rw [Int.toNat_natCast]
        have hzs := set_all a (fun j => gm (GF.inv (ex a)) (pQ ys 0 j ^^^ bn q j)) hys
        generalize hZ : ys.set a (txt n fun j => gm (GF.inv (ex a)) (pQ ys 0 j ^^^ bn q j)) = zs at hzs
        have hzl : zs.length = xs.length := by rw [← hZ, List.length_set]; exact hyl
        obtain ⟨he2, hn2⟩ := even_of (xs := zs) (by omega) (by omega) h3 hzs
        exact Ev.bind (impl_par he2 hn2) (Ev.now _)
      · rw [if_neg c2]
        refine evn (by omega) ?_
        by_cases c3 : b = xs.length + 1
        · rw [if_pos c3]
          refine evp (by omega) (ev_to_some (impl_xort n _ p (pP_lt _) (by omega) (by omega)) (evp (by omega) (evp (by show (a : Int) < (ys.length : Int); omega) (ev_some ?_))))
          rw [Int.toNat_natCast]
          have hzs := set_all a (fun j => pP ys j ^^^ bn p j) hys
          generalize hZ : ys.set a (txt n fun j => pP ys j ^^^ bn p j) = zs at hzs
          have hzl : zs.length = xs.length := by rw [← hZ, List.length_set]; exact hyl
          obtain ⟨he2, hn2⟩ := even_of (xs := zs) (by omega) (by omega) h3 hzs
          exact Ev.bind (impl_par he2 hn2) (Ev.now _)
        · rw [if_neg c3]
          refine evn (by omega) (ev_to_some (impl_xort n _ p (pP_lt _) (by omega) (by omega)) (ev_to_some (impl_xort n _ q (pQ_lt _ 0) (by omega) (by omega)) ?_))
          have hBo : ∀ j, pP ys j ^^^ bn p j < 256 := fun j => xor_lt _ _ (pP_lt _ j) (bn_lt p j)
          have hQo : ∀ j, pQ ys 0 j ^^^ bn q j < 256 := fun j => xor_lt _ _ (pQ_lt _ 0 j) (bn_lt q j)
          exact impl_two_end h1 h2 h3 h4 p q a b hab (by omega) ys hyl (fun j => pP ys j ^^^ bn p j) (fun j => pQ ys 0 j ^^^ bn q j) hBo hQo
  constructor
  · exact main _ _ (by unfold mn; split <;> omega) (by unfold mx; split <;> omega)
  · exact main _ _ (by unfold mn; split <;> omega) (by unfold mx; split <;> omega)
theorem spec_two_end (p q : ByteArray) (a b : Nat) (hab : a < b) (hb : b < xs.length) (ys : List ByteArray) (hyl : ys.length = xs.length) (B Q : Nat → Nat) (hBo : ∀ j, B j < 256) (hQo : ∀ j, Q j < 256) :
    Ev (fun k => (spec_l2Pow.f k 2 (a : Int)).bind fun t227 => ((spec_l2Pow.f k 2 (b : Int)).bind fun t228 => ((spec_l2Inv.f k (Go.bits .xor .u8 t227 t228)).bind fun t229 => ((spec_l3Times.f k t228 (txt n B)).bind fun t230 => ((spec_l3Xor.f (txt n Q) t230).bind fun t231 => ((spec_l3Times.f k t229 t231).bind fun t232 => (if 0 ≤ (a : Int) then (if (a : Int) < (ys.length : Int) then ((some (ys.set (a : Int).toNat t232 : List ByteArray)).bind fun y233 => ((spec_l3Xor.f (rdOf ByteArray.empty y233 (a : Int)) (txt n B)).bind fun t235 => (if 0 ≤ (b : Int) then (if (b : Int) < (ys.length : Int) then (some ((y233.set (b : Int).toNat t235), p, q)) else (none)) else (none)))) else (none)) else (none))))))))
    ((ys.set a (txt n fun j => gm (GF.inv (ex a ^^^ ex b)) (Q j ^^^ gm (ex b) (B j)))).set b (txt n fun j => B j ^^^ gm (GF.inv (ex a ^^^ ex b)) (Q j ^^^ gm (ex b) (B j))), p, q) := by
  have hwe := ev_times (ex b) (ex_lt b) (txt n B) (by rw [txt_size]; omega)
  rw [txt_size, txt_gr n _ _ hBo] at hwe
  have hT : ∀ j, Q j ^^^ gm (ex b) (B j) < 256 := fun j => xor_lt _ _ (hQo j) (gm_lt _ _ (ex_lt b))
  have hD : ∀ j, gm (GF.inv (ex a ^^^ ex b)) (Q j ^^^ gm (ex b) (B j)) < 256 := fun j => gm_lt _ _ (inv_lt _)
  have x1 := spec_xort n Q (txt n fun j => gm (ex b) (B j)) hQo (by rw [txt_size]; omega) (by omega)
  rw [txt_fr n _ _ (fun j => gm_lt _ _ (ex_lt b))] at x1
  have hd := ev_times (GF.inv (ex a ^^^ ex b)) (inv_lt _) (txt n fun j => Q j ^^^ gm (ex b) (B j)) (by rw [txt_size]; omega)
  rw [txt_size, txt_gr n _ _ hT] at hd
  have x2 := spec_xort n (fun j => gm (GF.inv (ex a ^^^ ex b)) (Q j ^^^ gm (ex b) (B j))) (txt n B) hD (by rw [txt_size]; omega) (by omega)
  rw [txt_fr n _ _ hBo, show (txt n fun j => gm (GF.inv (ex a ^^^ ex b)) (Q j ^^^ gm (ex b) (B j)) ^^^ B j) = txt n fun j => B j ^^^ gm (GF.inv (ex a ^^^ ex b)) (Q j ^^^ gm (ex b) (B j)) from txt_congr (fun j hj => Nat.xor_comm _ _)] at x2
  refine Ev.bind (ev_pow2 a (by omega)) (Ev.bind (ev_pow2 b (by omega)) ?_)
  rw [xor_u8 _ _ (ex_lt a) (ex_lt b)]
  refine Ev.bind (ev_sinv _ (xor_lt _ _ (ex_lt a) (ex_lt b))) (Ev.bind hwe (ev_to_some x1 (Ev.bind hd (evp (by omega) (evp (by omega) (ev_some ?_))))))
  rw [Int.toNat_natCast, Int.toNat_natCast, rdOf_nat, gset _ _ _ _ _ (by omega), if_pos rfl]
  exact ev_to_some x2 (evp (by omega) (evp (by omega) (Ev.now _)))
theorem spec_blank (p q : ByteArray) (l : Nat) (hp : p.size = n) (hq : q.size = n) : spec_l3Blank.f xs p q (l : Int) = some (blank xs n l, if l = xs.length then zer n else p, if xs.length < l then zer n else q) := by
  have hz : ∀ m : Nat, m ≤ 2 ^ 40 → spec_l1Zeros.f (m : Int) = some (zer m) := fun m hm => by
    unfold spec_l1Zeros.f
    rw [if_pos (by omega), if_pos (by omega), Int.toNat_natCast, zeros]
  unfold spec_l3Blank.f
  rw [own xs p q (by omega)]
  simp only [Option.bind_some]
  by_cases c1 : l < xs.length
  · rw [if_pos (by omega), hz p.size (by omega), if_neg (by omega), if_neg (by omega)]
    simp only [Option.bind_some]
    rw [if_pos (by omega), Int.toNat_natCast, hp]
    unfold blank
    rw [if_pos c1]
  · rw [if_neg (by omega), blank_off xs n l (by omega)]
    by_cases c2 : l = xs.length
    · rw [if_pos (by omega), hz p.size (by omega), if_pos c2, if_neg (by omega), hp]; rfl
    · rw [if_neg (by omega), hz q.size (by omega), if_neg c2, if_pos (by omega), hq]; rfl
theorem spec_two (p q : ByteArray) (a b : Nat) (hp : p.size = n) (hq : q.size = n) (hab : a < b) (hb : b ≤ xs.length + 1) : Ev (fun k => spec_l3Two.f k xs p q (a : Int) (b : Int)) (two xs p q n a b) := by
  have w1 : wrap64 ((xs.length : Int) + 1) = (xs.length : Int) + 1 := by unfold wrap64; omega
  have hzn : (zer n).size = n := txt_size _ _
  have hbl : (blank xs n a).length = xs.length := blank_len _ _ _
  have hba := blank_all a h4
  unfold spec_l3Two.f
  refine ev_to_some (spec_blank h1 h2 h3 h4 p q a hp hq) ?_
  simp only []
  rw [if_neg (show ¬ xs.length < a by omega), w1]
  have hp' : (if a = xs.length then zer n else p).size = n := by split <;> assumption
  refine ev_to_some (spec_blank (xs := blank xs n a) (by omega) (by omega) h3 hba _ q b hp' hq) ?_
  simp only []
  rw [hbl]
  unfold two
  simp only []
  by_cases c1 : a = xs.length
  · have hb1 : b = xs.length + 1 := by omega
    subst hb1
    rw [if_pos c1, if_pos c1]
    rw [blank_off xs n a (by omega), blank_off xs n (xs.length + 1) (by omega), if_neg (show ¬ xs.length + 1 = xs.length by omega), if_pos (show xs.length < xs.length + 1 by omega)]
    refine evp (by omega) ?_
    have o1 := spec_one h1 h2 h3 h4 (zer n) (zer n) a hzn (by omega) (by omega)
    have e1 : one xs (zer n) (zer n) n a = (xs, txt n (pP xs), zer n) := by
      unfold one
      rw [if_neg (by omega), if_pos c1, blank_off xs n a (by omega)]
    rw [e1] at o1
    have o2 := spec_one h1 h2 h3 h4 (txt n (pP xs)) (zer n) (xs.length + 1) (txt_size _ _) (by omega) (by omega)
    have e2 : one xs (txt n (pP xs)) (zer n) n (xs.length + 1) = (xs, txt n (pP xs), txt n (pQ xs 0)) := by
      unfold one
      rw [if_neg (by omega), if_neg (by omega), blank_off xs n (xs.length + 1) (by omega)]
    rw [e2] at o2
    exact Ev.bind o1 (Ev.bind o2 (Ev.now _))
  · rw [if_neg c1, if_neg c1]
    by_cases c3 : b = xs.length + 1
    · subst c3
      rw [blank_off (blank xs n a) n (xs.length + 1) (by omega), if_neg (show ¬ xs.length + 1 = xs.length by omega), if_neg (show ¬ xs.length + 1 = xs.length by omega), if_pos (show xs.length < xs.length + 1 by omega), if_pos rfl]
      refine evp (by omega) ?_
      have o1 := spec_one (xs := blank xs n a) (by omega) (by omega) h3 hba p (zer n) a hp (by omega) (by omega)
      have e1 : one (blank xs n a) p (zer n) n a = ((blank xs n a).set a (txt n fun j => pP (blank xs n a) j ^^^ bn p j), p, zer n) := by
        unfold one
        rw [if_pos (by omega), blank_twice]
      rw [e1] at o1
      refine Ev.bind o1 ?_
      simp only []
      have hzs := set_all a (fun j => pP (blank xs n a) j ^^^ bn p j) hba
      generalize hZ : (blank xs n a).set a (txt n fun j => pP (blank xs n a) j ^^^ bn p j) = zs at hzs
      have hzl : zs.length = xs.length := by rw [← hZ, List.length_set]; exact hbl
      have o2 := spec_one (xs := zs) (by omega) (by omega) h3 hzs p (zer n) (xs.length + 1) hp (by omega) (by omega)
      have e2 : one zs p (zer n) n (xs.length + 1) = (zs, p, txt n (pQ zs 0)) := by
        unfold one
        rw [if_neg (by omega), if_neg (by omega), blank_off zs n (xs.length + 1) (by omega)]
      rw [e2] at o2
      exact Ev.bind o2 (Ev.now _)
    · by_cases c2 : b = xs.length
      · subst c2
        rw [blank_off (blank xs n a) n xs.length (by omega), if_pos rfl, if_neg (show ¬ xs.length < xs.length by omega), if_pos rfl]
        refine evn (by omega) (evp rfl ?_)
        obtain ⟨he, hn⟩ := even_of (xs := blank xs n a) (by omega) (by omega) h3 hba
        refine Ev.bind (spec_par he hn) (Ev.bind (ev_pow2 a (by omega)) (Ev.bind (ev_sinv _ (ex_lt a)) (ev_to_some (spec_xort n _ q (pQ_lt _ 0) (by omega) (by omega)) ?_)))
        have hd := ev_times (GF.inv (ex a)) (inv_lt _) (txt n fun j => pQ (blank xs n a) 0 j ^^^ bn q j) (by rw [txt_size]; omega)
        rw [txt_size, txt_gr n _ _ (fun j => xor_lt _ _ (pQ_lt _ _ _) (bn_lt q j))] at hd
        refine Ev.bind hd (evp (by omega) (evp (by omega) ?_))
        rw [Int.toNat_natCast]
        have hzs := set_all a (fun j => gm (GF.inv (ex a)) (pQ (blank xs n a) 0 j ^^^ bn q j)) hba
        generalize hZ : (blank xs n a).set a (txt n fun j => gm (GF.inv (ex a)) (pQ (blank xs n a) 0 j ^^^ bn q j)) = zs at hzs
        have hzl : zs.length = xs.length := by rw [← hZ, List.length_set]; exact hbl
        have o2 := spec_one (xs := zs) (by omega) (by omega) h3 hzs (zer n) q xs.length hzn (by omega) (by omega)
        have e2 : one zs (zer n) q n xs.length = (zs, txt n (pP zs), q) := by
          unfold one
          rw [if_neg (by omega), if_pos hzl.symm, blank_off zs n xs.length (by omega)]
        rw [e2] at o2
        exact Ev.bind o2 (Ev.now _)
      · rw [if_neg c2, if_neg c2, if_neg c3, if_neg (show ¬ xs.length < b by omega)]
        refine evn (by omega) (evn (by omega) ?_)
        have hys := blank_all b hba
        have hyl : (blank (blank xs n a) n b).length = xs.length := by rw [blank_len, blank_len]
        generalize hY : blank (blank xs n a) n b = ys at hys hyl
        obtain ⟨he, hn⟩ := even_of (xs := ys) (by omega) (by omega) h3 hys
        refine Ev.bind (spec_par he hn) (ev_to_some (spec_xort n _ p (pP_lt _) (by omega) (by omega)) (ev_to_some (spec_xort n _ q (pQ_lt _ 0) (by omega) (by omega)) ?_))
        exact spec_two_end h1 h2 h3 h4 p q a b hab (by omega) ys hyl (fun j => pP ys j ^^^ bn p j) (fun j => pQ ys 0 j ^^^ bn q j) (fun j => xor_lt _ _ (pP_lt _ j) (bn_lt p j)) (fun j => xor_lt _ _ (pQ_lt _ 0 j) (bn_lt q j))
end

theorem mark_text_l (d : Nat) : ∀ (n : Nat) (out : ByteArray), n < 2 ^ d → d ≤ 60 → out.size + d ≤ 1000 → ∃ r, Ev (fun k => laws_markText.l0 k (n : Int) out) r := by
  induction d with
  | zero =>
    intro n out hn _ ho
    have : n = 0 := by simpa using hn
    subst this
    exact ⟨_, Ev.step (fun k => by simp only [laws_markText.l0]; rw [if_neg (by omega), if_pos (by omega)]) (Ev.now _)⟩
  | succ d ih =>
    intro n out hn hd ho
    by_cases h0 : n = 0
    · subst h0
      exact ⟨_, Ev.step (fun k => by simp only [laws_markText.l0]; rw [if_neg (by omega), if_pos (by omega)]) (Ev.now _)⟩
    · have hp : (2 : Nat) ^ (d + 1) ≤ 2 ^ 60 := Nat.pow_le_pow_right (by omega) hd
      have hz : ∀ x : Int, (strOfNums [x]).size = 1 := fun x => by rw [strOfNums_size]; rfl
      have hw : wrap64 (Int.tdiv (n : Int) 10) = ((n / 10 : Nat) : Int) := by
        rw [Int.tdiv_eq_ediv_of_nonneg (by omega)]
        have : (n : Int) / 10 = ((n / 10 : Nat) : Int) := by omega
        rw [this]; unfold wrap64; omega
      obtain ⟨r, hr⟩ := ih (n / 10) (strOfNums [(wrap64 (48 + Int.tmod (n : Int) 10)) % 256] ++ out) (by rw [Nat.pow_succ] at hn; omega) (by omega) (by rw [ByteArray.size_append, hz]; omega)
      refine ⟨r, Ev.step (fun k => ?_) hr⟩
      simp only [laws_markText.l0, Option.bind_some]
      rw [if_pos (by omega), if_pos (by rw [hz]; omega), hw]
theorem mark_text (n : Nat) (hn : n < 2 ^ 48) : ∃ r, Ev (fun k => laws_markText.f k (n : Int)) r := by
  by_cases h0 : n = 0
  · subst h0; exact ⟨_, evp (by omega) (Ev.now _)⟩
  · obtain ⟨r, hr⟩ := mark_text_l 48 n (⟨#[]⟩ : ByteArray) hn (by omega) (by show 0 + 48 ≤ 1000; omega)
    exact ⟨r, evn (by omega) hr⟩
theorem mark_texts : ∃ T : Nat → ByteArray, ∀ n : Nat, n < 2 ^ 48 → Ev (fun k => laws_markText.f k (n : Int)) (T n) := by
  refine ⟨fun n => if h : n < 2 ^ 48 then Classical.choose (mark_text n h) else ByteArray.empty, fun n hn => ?_⟩
  simp only [dif_pos hn]
  exact Classical.choose_spec (mark_text n hn)
theorem mark_strs_l (T : Nat → ByteArray) (hT : ∀ n : Nat, n < 2 ^ 48 → Ev (fun k => laws_markText.f k (n : Int)) (T n)) (d : Nat) : ∀ (xs : List ByteArray) (i : Nat), i + d = xs.length → xs.length < 2 ^ 40 → (∀ j, j < i → xs.getD j ByteArray.empty = T (1 + j)) →
    ∃ ys, Ev (fun k => laws_markStringS.l0 k xs ((1 + i : Nat) : Int) (i : Int)) (((1 + xs.length : Nat) : Int), ys) ∧ ys.length = xs.length ∧ ∀ j, j < xs.length → ys.getD j ByteArray.empty = T (1 + j) := by
  induction d with
  | zero =>
    intro xs i hi _ hxs
    refine ⟨xs, Ev.step (fun k => by simp only [laws_markStringS.l0]; rw [if_neg (by omega)]) (by rw [show i = xs.length by omega]; exact Ev.now _), rfl, fun j hj => hxs j (by omega)⟩
  | succ d ih =>
    intro xs i hi hl hxs
    obtain ⟨ys, hr, hn, hy⟩ := ih (xs.set i (T (1 + i))) (i + 1) (by rw [List.length_set]; omega) (by rw [List.length_set]; omega) (fun j hj => by
      rw [gset _ _ _ _ _ (by omega)]
      split
      · rename_i e; subst e; rfl
      · exact hxs j (by omega))
    rw [List.length_set] at hr hn hy
    have hw : wrap64 (((1 + i : Nat) : Int) + 1) = ((1 + (i + 1) : Nat) : Int) := by unfold wrap64; omega
    refine ⟨ys, Ev.step (fun k => by simp only [laws_markStringS.l0]; rw [if_pos (by omega), hw, inc i (by omega)]) (Ev.bind (hT (1 + i) (by omega)) ?_), hn, hy⟩
    rw [Int.toNat_natCast]
    exact evp (by omega) hr
theorem held_strs_l (T : Nat → ByteArray) (hT : ∀ n : Nat, n < 2 ^ 48 → Ev (fun k => laws_markText.f k (n : Int)) (T n)) (d : Nat) : ∀ (ys : List ByteArray) (i : Nat), i + d = ys.length → ys.length < 2 ^ 40 → (∀ j, j < ys.length → ys.getD j ByteArray.empty = T (1 + j)) →
    Ev (fun k => laws_heldStringS.l0 k ys ((1 + i : Nat) : Int) (i : Int)) ((1 + ys.length : Nat) : Int) := by
  induction d with
  | zero =>
    intro ys i hi _ _
    exact Ev.step (fun k => by simp only [laws_heldStringS.l0]; rw [if_neg (by omega)]) (by rw [show i = ys.length by omega]; exact Ev.now _)
  | succ d ih =>
    intro ys i hi hl hy
    have hw : wrap64 (((1 + i : Nat) : Int) + 1) = ((1 + (i + 1) : Nat) : Int) := by unfold wrap64; omega
    refine Ev.step (fun k => by simp only [laws_heldStringS.l0]; rw [if_pos (by omega), if_pos (by omega), rdOf_nat, hw, inc i (by omega)]) (Ev.bind (hT (1 + i) (by omega)) ?_)
    exact evp (by rw [hy i (by omega)]) (ih ys (i + 1) (by omega) hl hy)
theorem marked_strs (xs : List ByteArray) (hl : xs.length < 2 ^ 40) :
    ∃ ys, Ev (fun k => laws_markStringS.f k xs 1) (((1 + xs.length : Nat) : Int), ys) ∧ Ev (fun k => laws_heldStringS.f k ys 1) ((1 + xs.length : Nat) : Int) := by
  obtain ⟨T, hT⟩ := mark_texts
  obtain ⟨ys, h1, h2, h3⟩ := mark_strs_l T hT xs.length xs 0 (by omega) hl (fun j hj => by omega)
  have h4 := held_strs_l T hT ys.length ys 0 (by omega) (by omega) (fun j hj => h3 j (by omega))
  rw [Nat.add_zero] at h1 h4
  rw [h2] at h4
  exact ⟨ys, h1, h4⟩

theorem marked_stripe (xs : List ByteArray) (p q : ByteArray) (hl : xs.length < 2 ^ 40) :
    ∃ ys, Ev (fun k => laws_markStripe.f k xs p q 1) (((1 + xs.length : Nat) : Int), ys) ∧ Ev (fun k => laws_heldStripe.f k ys p q 1) ((1 + xs.length : Nat) : Int) := by
  obtain ⟨ys, h1, h2⟩ := marked_strs xs hl
  exact ⟨ys, Ev.bind h1 (Ev.now _), Ev.bind h2 (evn (by omega) (Ev.now _))⟩

theorem both_RecoverTwo (xs : List ByteArray) (p q : ByteArray) (a b : Int) (hx : xs.length < 2 ^ 40) : ∃ (rx : List ByteArray) (rp rq : ByteArray) (ok : Bool), rx.length < 2 ^ 40 ∧ Ev (fun k => spec_RecoverTwo.f k xs p q a b) (rx, rp, rq, ok) ∧ Ev (fun k => impl_RecoverTwo.f k xs p q a b) (rx, rp, rq, ok) := by
  have w1 : wrap64 ((xs.length : Int) + 1) = (xs.length : Int) + 1 := by unfold wrap64; omega
  have nos : ∀ u v : Int, Ev (fun k => spec_RecoverTwo.j0 k u v true xs p q) ([], (⟨#[]⟩ : ByteArray), (⟨#[]⟩ : ByteArray), false) := fun u v => Ev.step (fun k => by simp only [spec_RecoverTwo.j0]; rw [if_pos True.intro]) (Ev.now _)
  have noi : ∀ u v : Int, Ev (fun k => impl_RecoverTwo.j0 k u v true xs p q) ([], (⟨#[]⟩ : ByteArray), (⟨#[]⟩ : ByteArray), false) := fun u v => Ev.step (fun k => by simp only [impl_RecoverTwo.j0]; rw [if_pos True.intro]) (Ev.now _)
  have no : (goodS xs p q = true → ¬ ((a ≥ 0 ∧ a ≤ (xs.length : Int) + 1) ∧ (b ≥ 0 ∧ b ≤ (xs.length : Int) + 1) ∧ a ≠ b)) → Ev (fun k => spec_RecoverTwo.f k xs p q a b) ([], (⟨#[]⟩ : ByteArray), (⟨#[]⟩ : ByteArray), false) ∧ Ev (fun k => impl_RecoverTwo.f k xs p q a b) ([], (⟨#[]⟩ : ByteArray), (⟨#[]⟩ : ByteArray), false) := by
    intro h
    constructor
    · unfold spec_RecoverTwo.f
      refine Ev.bind (spec_good xs p q hx) ?_
      cases hg : goodS xs p q with
      | false => exact evn (by simp) (nos a b)
      | true =>
        refine evp rfl (ev_to_some (l1In_tells _ _ _) ?_)
        rw [w1]
        by_cases ha : a ≥ 0 ∧ a ≤ (xs.length : Int) + 1
        · rw [decide_eq_true ha]
          refine evp rfl (ev_to_some (l1In_tells _ _ _) ?_)
          by_cases hb : b ≥ 0 ∧ b ≤ (xs.length : Int) + 1
          · rw [decide_eq_true hb]
            have e : a = b := by
              by_cases e : a = b
              · exact e
              · exact absurd ⟨ha, hb, e⟩ (h hg)
            rw [show (a == b) = true from beq_iff_eq.mpr e]
            exact evp rfl (nos a b)
          · rw [decide_eq_false hb]; exact evn (by simp) (nos a b)
        · rw [decide_eq_false ha]; exact evn (by simp) (nos a b)
    · unfold impl_RecoverTwo.f
      refine ev_to_some (isDisk xs p q a hx) ?_
      cases hg : goodS xs p q with
      | false => exact evn (by simp) (noi a b)
      | true =>
        by_cases ha : a ≥ 0 ∧ a ≤ (xs.length : Int) + 1
        · rw [decide_eq_true ha]
          refine evp rfl (ev_to_some (isDisk xs p q b hx) ?_)
          rw [hg]
          by_cases hb : b ≥ 0 ∧ b ≤ (xs.length : Int) + 1
          · rw [decide_eq_true hb]
            have e : a = b := by
              by_cases e : a = b
              · exact e
              · exact absurd ⟨ha, hb, e⟩ (h hg)
            rw [show (a == b) = true from beq_iff_eq.mpr e]
            exact evp rfl (noi a b)
          · rw [decide_eq_false hb]; exact evn (by simp) (noi a b)
        · rw [decide_eq_false ha]; exact evn (by simp) (noi a b)
  by_cases hg : goodS xs p q = true
  · by_cases hc : (a ≥ 0 ∧ a ≤ (xs.length : Int) + 1) ∧ (b ≥ 0 ∧ b ≤ (xs.length : Int) + 1) ∧ a ≠ b
    · obtain ⟨u, rfl⟩ : ∃ u : Nat, a = (u : Int) := ⟨a.toNat, by omega⟩
      obtain ⟨v, rfl⟩ : ∃ v : Nat, b = (v : Int) := ⟨b.toNat, by omega⟩
      obtain ⟨hp, hq, b1, b2, b3, b4⟩ := good_all hg rfl
      generalize hn : (xs.getD 0 ByteArray.empty).size = n at hp hq b3 b4
      have hne : ((u : Int) == (v : Int)) = false := beq_eq_false_iff_ne.mpr hc.2.2
      have go : ∀ r : List ByteArray × ByteArray × ByteArray, r.1.length = xs.length → Ev (fun k => spec_RecoverTwo.j0 k (u : Int) (v : Int) false xs p q) (r.1, r.2.1, r.2.2, true) → Ev (fun k => impl_RecoverTwo.j0 k (u : Int) (v : Int) false xs p q) (r.1, r.2.1, r.2.2, true) →
          ∃ (rx : List ByteArray) (rp rq : ByteArray) (ok : Bool), rx.length < 2 ^ 40 ∧ Ev (fun k => spec_RecoverTwo.f k xs p q (u : Int) (v : Int)) (rx, rp, rq, ok) ∧ Ev (fun k => impl_RecoverTwo.f k xs p q (u : Int) (v : Int)) (rx, rp, rq, ok) := by
        intro r hr s1 s2
        refine ⟨r.1, r.2.1, r.2.2, true, by omega, ?_, ?_⟩
        · unfold spec_RecoverTwo.f
          refine Ev.bind (spec_good xs p q hx) ?_
          rw [hg]
          refine evp rfl (ev_to_some (l1In_tells _ _ _) ?_)
          rw [w1, decide_eq_true hc.1]
          refine evp rfl (ev_to_some (l1In_tells _ _ _) ?_)
          rw [decide_eq_true hc.2.1, hne]
          exact evp rfl s1
        · unfold impl_RecoverTwo.f
          refine ev_to_some (isDisk xs p q _ hx) ?_
          rw [hg, decide_eq_true hc.1]
          refine evp rfl (ev_to_some (isDisk xs p q _ hx) ?_)
          rw [hg, decide_eq_true hc.2.1, hne]
          exact evp rfl s2
      by_cases hlt : u < v
      · refine go (two xs p q n u v) (two_len _ _ _ _ _ _) ?_ (impl_two b1 b2 b3 b4 p q u v hp hq hlt (by omega)).1
        exact Ev.step (fun k => by simp only [spec_RecoverTwo.j0]; rw [if_neg (by decide), if_neg (by omega)]) (Ev.bind (spec_two b1 b2 b3 b4 p q u v hp hq hlt (by omega)) (Ev.now _))
      · have hlt : v < u := by omega
        refine go (two xs p q n v u) (two_len _ _ _ _ _ _) ?_ (impl_two b1 b2 b3 b4 p q v u hp hq hlt (by omega)).2
        exact Ev.step (fun k => by simp only [spec_RecoverTwo.j0]; rw [if_neg (by decide), if_pos (by omega)]) (Ev.bind (spec_two b1 b2 b3 b4 p q v u hp hq hlt (by omega)) (Ev.now _))
    · obtain ⟨n1, n2⟩ := no (fun _ => hc)
      exact ⟨[], _, _, false, by simp, n1, n2⟩
  · obtain ⟨n1, n2⟩ := no (fun h => absurd h hg)
    exact ⟨[], _, _, false, by simp, n1, n2⟩
theorem FnExactRecoverTwo : laws_FnExactRecoverTwo.PureG := by
  intro xs p q a b hl hp hq ha hb
  refine Ev.rounds ?_
  obtain ⟨r, h1, h2⟩ := sz_stripe xs p q hl hp hq 1048576 (by omega) (by omega)
  unfold laws_FnExactRecoverTwo.f
  refine Ev.bind h1 ?_
  by_cases hr : r < 0
  · exact evp hr (Ev.now _)
  · have hx : xs.length < 2 ^ 40 := by omega
    obtain ⟨rx, rp, rq, ok, hrx, e1, e2⟩ := both_RecoverTwo xs p q a b hx
    obtain ⟨m1, a1_, a2_⟩ := marked_stripe xs p q hx
    obtain ⟨m2, b1_, b2_⟩ := marked_stripe rx rp rq hrx
    have T := to_stripe xs p q hx
    have Q := eq_stripe rx rp rq hrx
    have Q0 := eq_stripe xs p q hx
    refine evn hr (Ev.bind T (Ev.bind e1 (Ev.bind T (Ev.bind e2 (Ev.bind Q (evp rfl ?_))))))
    rw [bne_self_eq_false]
    refine Ev.step (fun k => by simp only [laws_FnExactRecoverTwo.j0]; rw [if_neg (by decide)]) (Ev.bind T (Ev.bind Q0 (evp rfl (Ev.bind a1_ (evn (by show ¬ ((1 + xs.length : Nat) : Int) < 0; omega) (Ev.bind Q (evp rfl ?_)))))))
    rw [bne_self_eq_false]
    refine Ev.step (fun k => by simp only [laws_FnExactRecoverTwo.j1]; rw [if_neg (by decide)]) (Ev.bind b1_ (Ev.bind b2_ (evn (by show ¬ ((1 + rx.length : Nat) : Int) < 0; omega) (evp rfl (Ev.bind T (Ev.bind e2 (Ev.bind Q (evp rfl ?_))))))))
    rw [bne_self_eq_false]
    exact Ev.step (fun k => by simp only [laws_FnExactRecoverTwo.j2]; rw [if_neg (by decide)]) (Ev.bind b2_ (evn (by show ¬ ((1 + rx.length : Nat) : Int) < 0; omega) (evp rfl (Ev.now _))))

end Go.Proofs.Ytfijnlhklfmoeaa.Pure
