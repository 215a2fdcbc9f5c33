/- The program's GoodStripe answers as the reference's at all stripes; no condition. -/
import Derived.Test.YtfijnlhklfmoeaaGF
import Derived.Test.YtfijnlhklfmoeaaQFnExactGoodStripex3
import Derived.OpenShut
set_option linter.unusedVariables false
set_option linter.unusedSimpArgs false
namespace Go.Proofs.Ytfijnlhklfmoeaa.Pure
open Go.RowKit Go.Proofs.Ytfijnlhklfmoeaa.PFnExactGoodStripe Go.Proofs.YtfijnlhklfmoeaaW.PrintWords Go.Proofs.YtfijnlhklfmoeaaW.PrintLast Go.Proofs.YtfijnlhklfmoeaaW.PrintMore Go.Proofs.Ytfijnlhklfmoeaa.GF

theorem wr64 (n : Nat) (h : n < 2 ^ 62) : wrap64 (n : Int) = (n : Int) := by unfold wrap64; omega
theorem wri (n : Int) (h : 0 ≤ n) (h1 : n < 2 ^ 62) : wrap64 n = n := by unfold wrap64; omega
theorem byte_of {x : Int} (h : (Lit.int .u8 x).wf = true) : ∃ n : Nat, n < 256 ∧ x = (n : Int) := by
  have := bounds_u8 h
  exact ⟨x.toNat, by omega, by omega⟩
theorem shr_nat (b j q : Nat) (hj : j ≤ 8) (hq : q = b / 2 ^ j) : shr .u8 (b : Int) (j : Int) = (q : Int) := by
  unfold shr
  rw [Int.toNat_natCast, Nat.min_eq_left (show j ≤ IntKind.bits .u8 from hj), hq]
  simp
theorem and1_nat (q : Nat) (hq : q < 256) : Go.bits .and .u8 (q : Int) 1 = ((q % 2 : Nat) : Int) := by
  rw [and1_u8 (q : Int) (by omega) (by omega)]; simp
theorem and1_inat (q : Nat) (hq : q < 2 ^ 62) : Go.bits .and .i64 (q : Int) 1 = ((q % 2 : Nat) : Int) := by
  rw [and1_i64 (q : Int) (by omega) (by omega)]; simp
theorem dbl (x : Nat) (hx : x < 256) : wrap64 ((x : Int) * 2) = ((2 * x : Nat) : Int) := by unfold wrap64; omega
theorem inc (j : Nat) (hj : j < 2 ^ 62) : wrap64 ((j : Int) + 1) = ((j + 1 : Nat) : Int) := by unfold wrap64; omega
theorem x285 (x : Nat) (hx : x < 256) : Go.bits .xor .i64 ((2 * x : Nat) : Int) 285 = ((2 * x ^^^ 285 : Nat) : Int) := xor_i64 (2 * x) 285 (by omega) (by omega)
theorem xor_nat (o x : Nat) (ho : o < 256) (hx : x < 256) : Go.bits .xor .i64 (o : Int) (x : Int) = ((o ^^^ x : Nat) : Int) := xor_i64 o x (by omega) (by omega)
theorem xt_hi (x : Nat) (h : 2 * x > 255) : xt x = 2 * x ^^^ 285 := by unfold xt; rw [if_pos h]
theorem xt_lo (x : Nat) (h : ¬ 2 * x > 255) : xt x = 2 * x := by unfold xt; rw [if_neg h]

theorem within_tells (a b c : Int) : impl_within.f a b c = some (decide (a ≥ b ∧ a ≤ c)) := by
  unfold impl_within.f
  split
  · rename_i h; simp [h]
  · rename_i h; simp [h]
theorem l1In_tells (a b c : Int) : spec_l1In.f a b c = some (decide (a ≥ b ∧ a ≤ c)) := by
  unfold spec_l1In.f
  split
  · rename_i h; simp [h]
  · rename_i h; simp [h]

theorem ev_of {α : Type} {g : Nat → Option α} {r : α} (K : Nat) (h : ∀ k, K < k → g k = some r) : Ev g r := ⟨K + 1, fun k hk => h k (by omega)⟩
theorem evp {α : Type} {c : Prop} [Decidable c] {f g : Nat → Option α} {r : α} (h : c) (k : Ev f r) : Ev (fun n => if c then f n else g n) r := Ev.congr (fun _ => if_pos h) k
theorem evn {α : Type} {c : Prop} [Decidable c] {f g : Nat → Option α} {r : α} (h : ¬ c) (k : Ev g r) : Ev (fun n => if c then f n else g n) r := Ev.congr (fun _ => if_neg h) k
theorem ev_some {α β : Type} {a : α} {f : Nat → α → Option β} {r : β} (h : Ev (fun n => f n a) r) : Ev (fun n => (some a).bind (f n)) r := h
theorem ev_to_some {α β : Type} {o : Option α} {a : α} {f : Nat → α → Option β} {r : β} (ho : o = some a) (h : Ev (fun n => f n a) r) : Ev (fun n => o.bind (f n)) r := by subst ho; exact h
theorem maxLen_lt : maxLen < 2 ^ 63 := by decide

theorem gset {α : Type} (z : α) (xs : List α) (i j : Nat) (v : α) (hi : i < xs.length) : (xs.set i v).getD j z = if j = i then v else xs.getD j z := by
  simp only [List.getD_eq_getElem?_getD, List.getElem?_set]
  by_cases h : i = j
  · subst h; simp [hi]
  · rw [if_neg h, if_neg (fun e => h e.symm)]
theorem gext {α : Type} (z : α) {l m : List α} (hl : l.length = m.length) (h : ∀ j, j < l.length → l.getD j z = m.getD j z) : l = m := by
  apply List.ext_getElem hl
  intro j h1 h2
  have := h j h1
  simpa [List.getD_eq_getElem?_getD, h1, h2] using this
theorem rdOf_nat {α : Type} (z : α) (xs : List α) (i : Nat) : rdOf z xs (i : Int) = xs.getD i z := by unfold rdOf; rw [Int.toNat_natCast]
theorem gmem {α : Type} (z : α) {xs : List α} {i : Nat} (h : i < xs.length) : xs.getD i z ∈ xs := by
  rw [List.getD_eq_getElem?_getD]; simp [h]
/-- what a count of sizes leaves -/
def Left (B r : Int) : Prop := r < 0 ∨ 0 ≤ r ∧ r ≤ B
theorem sz_strs_l (xs : List ByteArray) (hl : xs.length < 2 ^ 48) (hs : ∀ x ∈ xs, x.size ≤ maxLen) (B : Int) (hB : B < 2 ^ 40) (d : Nat) : ∀ (i : Nat) (m : Int), i + d = xs.length → 0 ≤ m → m ≤ B →
    ∃ r, Ev (fun k => laws_szStringS.l0 k xs m (i : Int)) r ∧ Left B r := by
  induction d with
  | zero =>
    intro i m hi h0 h1
    exact ⟨m, Ev.step (fun k => by simp only [laws_szStringS.l0]; rw [if_neg (by omega)]) (Ev.now _), Or.inr ⟨h0, h1⟩⟩
  | succ d ih =>
    intro i m hi h0 h1
    have hsz := hs _ (gmem ByteArray.empty (show i < xs.length by omega))
    have hml := maxLen_lt
    have hw : wrap64 (m - (((xs.getD i ByteArray.empty).size : Nat) : Int)) = m - (((xs.getD i ByteArray.empty).size : Nat) : Int) := by unfold wrap64; omega
    by_cases hneg : m - (((xs.getD i ByteArray.empty).size : Nat) : Int) < 0
    · exact ⟨-1, Ev.step (fun k => by simp only [laws_szStringS.l0]; rw [if_pos (by omega), if_pos (by omega), rdOf_nat, hw, if_pos hneg]) (Ev.now _), Or.inl (by omega)⟩
    · obtain ⟨r, h2, h3⟩ := ih (i + 1) (m - (((xs.getD i ByteArray.empty).size : Nat) : Int)) (by omega) (by omega) (by omega)
      exact ⟨r, Ev.step (fun k => by simp only [laws_szStringS.l0]; rw [if_pos (by omega), if_pos (by omega), rdOf_nat, hw, if_neg hneg, inc i (by omega)]) h2, h3⟩
theorem sz_strs (xs : List ByteArray) (hl : xs.length ≤ maxLen) (hs : ∀ x ∈ xs, x.size ≤ maxLen) (B : Int) (h0 : 0 ≤ B) (hB : B < 2 ^ 40) :
    ∃ r, Ev (fun k => laws_szStringS.f k xs B) r ∧ (r < 0 ∨ 0 ≤ r ∧ r ≤ B ∧ (xs.length : Int) ≤ B) := by
  have hml := maxLen_lt
  unfold laws_szStringS.f
  rw [show wrap64 (B - (xs.length : Int)) = B - (xs.length : Int) by unfold wrap64; omega]
  by_cases hneg : B - (xs.length : Int) < 0
  · exact ⟨-1, evp hneg (Ev.now _), Or.inl (by omega)⟩
  · obtain ⟨r, h1, h2⟩ := sz_strs_l xs (by omega) hs (B - (xs.length : Int)) (by omega) xs.length 0 (B - (xs.length : Int)) (by omega) (by omega) (by omega)
    refine ⟨r, evn hneg h1, ?_⟩
    unfold Left at h2; omega
theorem to_strs_l (xs : List ByteArray) (hl : xs.length < 2 ^ 40) (d : Nat) : ∀ (ys : List ByteArray) (i : Nat), i + d = xs.length → ys.length = xs.length → (∀ j, j < i → ys.getD j ByteArray.empty = xs.getD j ByteArray.empty) →
    Ev (fun k => laws_toStringS.l0 k xs ys (i : Int)) xs := by
  induction d with
  | zero =>
    intro ys i hi hy he
    refine Ev.step (fun k => by simp only [laws_toStringS.l0]; rw [if_neg (by omega)]) ?_
    rw [gext ByteArray.empty hy (fun j hj => he j (by omega))]
    exact Ev.now _
  | succ d ih =>
    intro ys i hi hy he
    refine Ev.step (fun k => by
      simp only [laws_toStringS.l0]
      rw [if_pos (by omega), if_pos (by omega), if_pos (by omega), rdOf_nat, Int.toNat_natCast, inc i (by omega)]) ?_
    refine ih _ (i + 1) (by omega) (by rw [List.length_set]; exact hy) (fun j hj => ?_)
    rw [gset _ _ _ _ _ (by omega)]
    split
    · rename_i e; subst e; rfl
    · exact he j (by omega)
theorem to_strs (xs : List ByteArray) (hl : xs.length < 2 ^ 40) : Ev (fun k => laws_toStringS.f k xs) xs := by
  unfold laws_toStringS.f
  exact evp (by omega) (evp (by omega) (to_strs_l xs hl xs.length _ 0 (by omega) (by simp) (fun j hj => by omega)))
theorem eq_strs_l (xs : List ByteArray) (hl : xs.length < 2 ^ 40) (d : Nat) : ∀ (i : Nat), i + d = xs.length → Ev (fun k => laws_eqStringS.l0 k xs xs (i : Int)) true := by
  induction d with
  | zero => intro i hi; exact Ev.step (fun k => by simp only [laws_eqStringS.l0]; rw [if_neg (by omega)]) (Ev.now _)
  | succ d ih =>
    intro i hi
    exact Ev.step (fun k => by
      simp only [laws_eqStringS.l0]
      rw [if_pos (by omega), if_pos (by omega), if_pos (by omega), if_pos True.intro, inc i (by omega)]) (ih (i + 1) (by omega))
theorem eq_strs (xs : List ByteArray) (hl : xs.length < 2 ^ 40) : Ev (fun k => laws_eqStringS.f k xs xs) true := by
  unfold laws_eqStringS.f
  exact evp rfl (eq_strs_l xs hl xs.length 0 (by omega))

theorem sz_stripe (xs : List ByteArray) (p q : ByteArray) (hl : xs.length ≤ maxLen ∧ ∀ x ∈ xs, x.size ≤ maxLen) (hp : p.size ≤ maxLen) (hq : q.size ≤ maxLen) (B : Int) (h0 : 0 ≤ B) (hB : B < 2 ^ 40) :
    ∃ r, Ev (fun k => laws_szStripe.f k xs p q B) r ∧ (r < 0 ∨ 0 ≤ r ∧ r ≤ B ∧ (xs.length : Int) ≤ B) := by
  have hml := maxLen_lt
  obtain ⟨r, h1, h2⟩ := sz_strs xs hl.1 hl.2 B h0 hB
  unfold laws_szStripe.f
  by_cases hr : r < 0
  · exact ⟨-1, Ev.bind h1 (evp hr (Ev.now _)), Or.inl (by omega)⟩
  · have w1 : wrap64 (r - (p.size : Int)) = r - (p.size : Int) := by unfold wrap64; omega
    by_cases hr1 : r - (p.size : Int) < 0
    · refine ⟨-1, Ev.bind h1 (evn hr ?_), Or.inl (by omega)⟩
      rw [w1]
      exact evp hr1 (Ev.now _)
    · have w2 : wrap64 (r - (p.size : Int) - (q.size : Int)) = r - (p.size : Int) - (q.size : Int) := by clear w1; unfold wrap64; omega
      by_cases hr2 : r - (p.size : Int) - (q.size : Int) < 0
      · refine ⟨-1, Ev.bind h1 (evn hr ?_), Or.inl (by omega)⟩
        rw [w1, w2]
        exact evn hr1 (evp hr2 (Ev.now _))
      · refine ⟨r - (p.size : Int) - (q.size : Int), Ev.bind h1 (evn hr ?_), Or.inr (by omega)⟩
        rw [w1, w2]
        exact evn hr1 (evn hr2 (Ev.now _))
theorem to_stripe (xs : List ByteArray) (p q : ByteArray) (hl : xs.length < 2 ^ 40) : Ev (fun k => laws_toStripe.f k xs p q) (xs, p, q) := Ev.bind (to_strs xs hl) (Ev.now _)
theorem eq_stripe (xs : List ByteArray) (p q : ByteArray) (hl : xs.length < 2 ^ 40) : Ev (fun k => laws_eqStripe.f k xs p q xs p q) true := by
  unfold laws_eqStripe.f
  exact Ev.bind (eq_strs xs hl) (evp rfl (evp rfl (evp rfl (Ev.now _))))

/-- texts of one length, as both say it -/
def even (xs : List ByteArray) : Bool := decide (1 ≤ xs.length ∧ xs.length ≤ 16) && (decide ((xs.getD 0 ByteArray.empty).size ≤ 40) && !(xs.any fun s => (s.size : Int) != ((xs.getD 0 ByteArray.empty).size : Int)))
theorem l3data_l (xs : List ByteArray) (hl : xs.length < 2 ^ 40) (d : Nat) : ∀ (i : Nat), i + d = xs.length →
    Ev (fun k => spec_l3Data.l0 k xs xs (xs.length : Int) (i : Int)) (if (xs.drop i).any (fun s => (s.size : Int) != ((xs.getD 0 ByteArray.empty).size : Int)) = true then false else decide (1 ≤ xs.length ∧ xs.length ≤ 16) && decide ((xs.getD 0 ByteArray.empty).size ≤ 40)) := by
  induction d with
  | zero =>
    intro i hi
    rw [List.drop_eq_nil_of_le (by omega), List.any_nil, if_neg (by decide)]
    refine Ev.step (fun k => by simp only [spec_l3Data.l0]; rw [if_neg (by omega), l1In_tells]) ?_
    by_cases h : 1 ≤ xs.length ∧ xs.length ≤ 16
    · rw [decide_eq_true h, decide_eq_true (show (xs.length : Int) ≥ 1 ∧ (xs.length : Int) ≤ 16 by omega), Bool.true_and]
      refine ev_some (evp rfl (evp (by omega) ?_))
      rw [show rdOf ByteArray.empty xs 0 = xs.getD 0 ByteArray.empty from rfl]
      by_cases h2 : (xs.getD 0 ByteArray.empty).size ≤ 40
      · rw [decide_eq_true h2, decide_eq_true (by omega)]; exact Ev.now _
      · rw [decide_eq_false h2, decide_eq_false (by omega)]; exact Ev.now _
    · rw [decide_eq_false h, decide_eq_false (show ¬ ((xs.length : Int) ≥ 1 ∧ (xs.length : Int) ≤ 16) by omega), Bool.false_and]
      exact ev_some (evn (by decide) (Ev.now _))
  | succ d ih =>
    intro i hi
    have hd : xs.drop i = xs.getD i ByteArray.empty :: xs.drop (i + 1) := by
      rw [List.drop_eq_getElem_cons (by omega)]; simp [List.getD_eq_getElem?_getD, show i < xs.length by omega]
    rw [hd, List.any_cons]
    by_cases h : ((xs.getD i ByteArray.empty).size : Int) = ((xs.getD 0 ByteArray.empty).size : Int)
    · rw [bne_eq_false_iff_eq.mpr h, Bool.false_or]
      refine Ev.step (fun k => by
        simp only [spec_l3Data.l0]
        rw [if_pos (by omega), if_pos (by omega), if_pos (by omega), if_pos (by omega), rdOf_nat, show rdOf ByteArray.empty xs 0 = xs.getD 0 ByteArray.empty from rfl, if_pos h, inc i (by omega)]) (ih (i + 1) (by omega))
    · rw [bne_iff_ne.mpr h, Bool.true_or, if_pos rfl]
      exact Ev.step (fun k => by
        simp only [spec_l3Data.l0]
        rw [if_pos (by omega), if_pos (by omega), if_pos (by omega), if_pos (by omega), rdOf_nat, show rdOf ByteArray.empty xs 0 = xs.getD 0 ByteArray.empty from rfl, if_neg h]) (Ev.now _)
theorem l3data (xs : List ByteArray) (hl : xs.length < 2 ^ 40) : Ev (fun k => spec_l3Data.f k xs) (even xs) := by
  have := l3data_l xs hl xs.length 0 (by omega)
  rw [List.drop_zero] at this
  unfold spec_l3Data.f even
  cases h : xs.any (fun s => (s.size : Int) != ((xs.getD 0 ByteArray.empty).size : Int)) with
  | true => rw [h, if_pos rfl] at this; simpa using this
  | false => rw [h, if_neg (by decide)] at this; simpa using this
theorem areEqual (xs : List ByteArray) : impl_areEqual.f xs = some (even xs) := rfl
theorem even_pos {xs : List ByteArray} (h : even xs = true) : 1 ≤ xs.length ∧ xs.length ≤ 16 ∧ (xs.getD 0 ByteArray.empty).size ≤ 40 ∧ ∀ x ∈ xs, x.size = (xs.getD 0 ByteArray.empty).size := by
  unfold even at h
  rw [Bool.and_eq_true, Bool.and_eq_true] at h
  obtain ⟨h1, h2, h3⟩ := h
  have h1 := of_decide_eq_true h1
  refine ⟨h1.1, h1.2, of_decide_eq_true h2, fun x hx => ?_⟩
  have h4 : xs.any (fun s => (s.size : Int) != ((xs.getD 0 ByteArray.empty).size : Int)) = false := by simpa using h3
  have h5 := List.any_eq_false.mp h4 x hx
  simp at h5
  simp only [List.getD_eq_getElem?_getD]; omega
/-- a stripe is right, as both say it -/
def goodS (xs : List ByteArray) (p q : ByteArray) : Bool := even xs && (decide (p.size = (xs.getD 0 ByteArray.empty).size) && decide (q.size = (xs.getD 0 ByteArray.empty).size))
theorem spec_good (xs : List ByteArray) (p q : ByteArray) (hl : xs.length < 2 ^ 40) : Ev (fun k => spec_GoodStripe.f k xs p q) (goodS xs p q) := by
  unfold spec_GoodStripe.f goodS
  refine Ev.bind (l3data xs hl) ?_
  cases he : even xs with
  | false => exact evn (by decide) (Ev.now _)
  | true =>
    have hp := even_pos he
    refine evp rfl (evp (by omega) ?_)
    rw [show rdOf ByteArray.empty xs 0 = xs.getD 0 ByteArray.empty from rfl]
    by_cases h : p.size = (xs.getD 0 ByteArray.empty).size
    · refine evp (by omega) ?_
      rw [decide_eq_true h, Bool.true_and, Bool.true_and, ← h]
      by_cases h2 : q.size = p.size
      · rw [decide_eq_true h2, h2, beq_self_eq_true]; exact Ev.now _
      · rw [decide_eq_false h2, beq_eq_false_iff_ne.mpr (by omega)]; exact Ev.now _
    · refine evn (by omega) ?_
      rw [decide_eq_false h]; exact Ev.now _
theorem impl_good (xs : List ByteArray) (p q : ByteArray) : impl_GoodStripe.f xs p q = some (goodS xs p q) := by
  unfold impl_GoodStripe.f goodS
  rw [areEqual]
  simp only [Option.bind_some]
  cases he : even xs with
  | false => rfl
  | true =>
    have hp := even_pos he
    rw [if_pos rfl, if_pos (by omega), show rdOf ByteArray.empty xs 0 = xs.getD 0 ByteArray.empty from rfl]
    by_cases h : p.size = (xs.getD 0 ByteArray.empty).size
    · rw [if_pos (by omega), decide_eq_true h, Bool.true_and, Bool.true_and]
      by_cases h2 : q.size = (xs.getD 0 ByteArray.empty).size
      · rw [decide_eq_true h2, h2, beq_self_eq_true]
      · rw [decide_eq_false h2, beq_eq_false_iff_ne.mpr (by omega)]
    · rw [if_neg (by omega), decide_eq_false h]; rfl

theorem FnExactGoodStripe : laws_FnExactGoodStripe.PureG := by
  intro xs p q hl hp hq
  refine Ev.rounds ?_
  obtain ⟨r, h1, h2⟩ := sz_stripe xs p q hl hp hq 1048576 (by omega) (by omega)
  unfold laws_FnExactGoodStripe.f
  refine Ev.bind h1 ?_
  by_cases hr : r < 0
  · exact evp hr (Ev.now _)
  · have hx : xs.length < 2 ^ 40 := by omega
    refine evn hr (Ev.bind (to_stripe xs p q hx) (Ev.bind (spec_good xs p q hx) (Ev.bind (to_stripe xs p q hx) (ev_to_some (impl_good xs p q) ?_))))
    rw [bne_self_eq_false]
    exact evn (by decide) (Ev.bind (to_stripe xs p q hx) (Ev.bind (eq_stripe xs p q hx) (evp rfl (Ev.now _))))

end Go.Proofs.Ytfijnlhklfmoeaa.Pure
