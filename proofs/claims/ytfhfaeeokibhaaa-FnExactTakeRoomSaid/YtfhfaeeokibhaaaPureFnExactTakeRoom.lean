/- The program's TakeRoom answers as the reference's at all free space and numbers, and shares no memory; no condition. -/
import Derived.Test.YtfhfaeeokibhaaaQFnExactTakeRoomx14
import Derived.OpenShut
set_option linter.unusedVariables false
set_option linter.unusedSimpArgs false
namespace Go.Proofs.Ytfhfaeeokibhaaa.Pure
open Go.RowKit Go.Proofs.Ytfhfaeeokibhaaa.PFnExactTakeRoom Go.Proofs.YtfhfaeeokibhaaaW.PrintWords Go.Proofs.YtfhfaeeokibhaaaW.PrintLast Go.Proofs.YtfhfaeeokibhaaaW.PrintMore 

theorem wr64 (n : Nat) (h : n < 2 ^ 62) : wrap64 (n : Int) = (n : Int) := by unfold wrap64; omega
theorem wri (n : Int) (h : 0 ≤ n) (h1 : n < 2 ^ 62) : wrap64 n = n := by unfold wrap64; omega
theorem byte_of {x : Int} (h : (Lit.int .u8 x).wf = true) : ∃ n : Nat, n < 256 ∧ x = (n : Int) := by
  have := bounds_u8 h
  exact ⟨x.toNat, by omega, by omega⟩
theorem shr_nat (b j q : Nat) (hj : j ≤ 8) (hq : q = b / 2 ^ j) : shr .u8 (b : Int) (j : Int) = (q : Int) := by
  unfold shr
  rw [Int.toNat_natCast, Nat.min_eq_left (show j ≤ IntKind.bits .u8 from hj), hq]
  simp
theorem dbl (x : Nat) (hx : x < 256) : wrap64 ((x : Int) * 2) = ((2 * x : Nat) : Int) := by unfold wrap64; omega
theorem inc (j : Nat) (hj : j < 2 ^ 62) : wrap64 ((j : Int) + 1) = ((j + 1 : Nat) : Int) := by unfold wrap64; omega
theorem nn (n : Nat) : ¬ ((n : Int) < 0) := by omega

theorem within_tells (a b c : Int) : impl_within.f a b c = some (decide (a ≥ b ∧ a ≤ c)) := by
  unfold impl_within.f
  split
  · rename_i h; simp [h]
  · rename_i h; simp [h]
theorem l1In_tells (a b c : Int) : spec_l1In.f a b c = some (decide (a ≥ b ∧ a ≤ c)) := by
  unfold spec_l1In.f
  split
  · rename_i h; simp [h]
  · rename_i h; simp [h]

theorem ev_of {α : Type} {g : Nat → Option α} {r : α} (K : Nat) (h : ∀ k, K < k → g k = some r) : Ev g r := ⟨K + 1, fun k hk => h k (by omega)⟩
theorem evp {α : Type} {c : Prop} [Decidable c] {f g : Nat → Option α} {r : α} (h : c) (k : Ev f r) : Ev (fun n => if c then f n else g n) r := Ev.congr (fun _ => if_pos h) k
theorem evn {α : Type} {c : Prop} [Decidable c] {f g : Nat → Option α} {r : α} (h : ¬ c) (k : Ev g r) : Ev (fun n => if c then f n else g n) r := Ev.congr (fun _ => if_neg h) k
theorem ev_some {α β : Type} {a : α} {f : Nat → α → Option β} {r : β} (h : Ev (fun n => f n a) r) : Ev (fun n => (some a).bind (f n)) r := h
theorem ev_to_some {α β : Type} {o : Option α} {a : α} {f : Nat → α → Option β} {r : β} (ho : o = some a) (h : Ev (fun n => f n a) r) : Ev (fun n => o.bind (f n)) r := by subst ho; exact h
theorem maxLen_lt : maxLen < 2 ^ 63 := by decide

theorem gset {α : Type} (z : α) (xs : List α) (i j : Nat) (v : α) (hi : i < xs.length) : (xs.set i v).getD j z = if j = i then v else xs.getD j z := by
  simp only [List.getD_eq_getElem?_getD, List.getElem?_set]
  by_cases h : i = j
  · subst h; simp [hi]
  · rw [if_neg h, if_neg (fun e => h e.symm)]
theorem gext {α : Type} (z : α) {l m : List α} (hl : l.length = m.length) (h : ∀ j, j < l.length → l.getD j z = m.getD j z) : l = m := by
  apply List.ext_getElem hl
  intro j h1 h2
  have := h j h1
  simpa [List.getD_eq_getElem?_getD, h1, h2] using this
theorem rdOf_nat {α : Type} (z : α) (xs : List α) (i : Nat) : rdOf z xs (i : Int) = xs.getD i z := by unfold rdOf; rw [Int.toNat_natCast]
theorem gmem {α : Type} (z : α) {xs : List α} {i : Nat} (h : i < xs.length) : xs.getD i z ∈ xs := by
  rw [List.getD_eq_getElem?_getD]; simp [h]
/-- what a count of sizes leaves -/
def Left (B r : Int) : Prop := r < 0 ∨ 0 ≤ r ∧ r ≤ B

def convExtent (x : S47) : S49 := ⟨x.f0, x.f1⟩
theorem rd_extent (xs : List S49) (i : Nat) : rd_T49 xs (i : Int) = xs.getD i z49 := by unfold rd_T49; rw [Int.toNat_natCast]
theorem rd0_extent (xs : List S47) (i : Nat) : rd_T47 xs (i : Int) = xs.getD i z47 := by unfold rd_T47; rw [Int.toNat_natCast]
theorem to_extents_l (xs : List S47) (hl : xs.length < 2 ^ 40) (d : Nat) : ∀ (ys : List S49) (i : Nat), i + d = xs.length → ys.length = xs.length → (∀ j, j < i → ys.getD j z49 = (xs.map convExtent).getD j z49) →
    Ev (fun k => laws_toExtentS.l0 k xs ys (i : Int)) (xs.map convExtent) := by
  induction d with
  | zero =>
    intro ys i hi hy he
    refine Ev.step (fun k => by simp only [laws_toExtentS.l0]; rw [if_neg (by omega)]) ?_
    rw [gext z49 (l := ys) (m := xs.map convExtent) (by rw [List.length_map]; exact hy) (fun j hj => he j (by omega))]
    exact Ev.now _
  | succ d ih =>
    intro ys i hi hy he
    refine Ev.step (fun k => by
      simp only [laws_toExtentS.l0, laws_toExtent.f, Option.bind_some]
      rw [if_pos (by omega), if_pos (by omega), if_pos (by omega), rd0_extent, Int.toNat_natCast, inc i (by omega)]) ?_
    refine ih _ (i + 1) (by omega) (by rw [List.length_set]; exact hy) (fun j hj => ?_)
    rw [gset _ _ _ _ _ (by omega)]
    split
    · rename_i e; subst e
      simp only [List.getD_eq_getElem?_getD, List.getElem?_map, List.getElem?_eq_getElem (show j < xs.length by omega), Option.map_some, Option.getD_some, convExtent]
    · exact he j (by omega)
theorem to_extents (xs : List S47) (hl : xs.length < 2 ^ 40) : Ev (fun k => laws_toExtentS.f k xs) (xs.map convExtent) := by
  unfold laws_toExtentS.f
  exact evp (by omega) (evp (by omega) (to_extents_l xs hl xs.length _ 0 (by omega) (by simp) (fun j hj => by omega)))
theorem eq_extents_l (xs : List S49) (hl : xs.length < 2 ^ 40) (d : Nat) : ∀ (i : Nat), i + d = xs.length → Ev (fun k => laws_eqExtentS.l0 k xs xs (i : Int)) true := by
  induction d with
  | zero => intro i hi; exact Ev.step (fun k => by simp only [laws_eqExtentS.l0]; rw [if_neg (by omega)]) (Ev.now _)
  | succ d ih =>
    intro i hi
    exact Ev.step (fun k => by
      simp only [laws_eqExtentS.l0, laws_eqExtent.f, if_true, Option.bind_some]
      rw [if_pos (by omega), if_pos (by omega), if_pos (by omega), inc i (by omega)]) (ih (i + 1) (by omega))
theorem eq_extents (xs : List S49) (hl : xs.length < 2 ^ 40) : Ev (fun k => laws_eqExtentS.f k xs xs) true := by
  unfold laws_eqExtentS.f
  exact evp rfl (eq_extents_l xs hl xs.length 0 (by omega))

theorem sz_extents (xs : List S47) (hl : xs.length ≤ maxLen) (B : Int) (h0 : 0 ≤ B) (hB : B < 2 ^ 40) :
    ∃ r, laws_szExtentS.f xs B = some r ∧ (r < 0 ∨ 0 ≤ r ∧ r ≤ B ∧ (xs.length : Int) ≤ B) := by
  have hml := maxLen_lt
  unfold laws_szExtentS.f
  rw [show wrap64 (B - (xs.length : Int)) = B - (xs.length : Int) by unfold wrap64; omega]
  by_cases hneg : B - (xs.length : Int) < 0
  · exact ⟨-1, if_pos hneg, Or.inl (by omega)⟩
  · exact ⟨_, if_neg hneg, Or.inr (by omega)⟩
theorem sz_free (b : Int) (xs ys : List S47) (hx : xs.length ≤ maxLen) (hy : ys.length ≤ maxLen) (B : Int) (h0 : 0 ≤ B) (hB : B < 2 ^ 40) :
    ∃ r, laws_szFree.f b xs ys B = some r ∧ (r < 0 ∨ (xs.length : Int) ≤ B ∧ (ys.length : Int) ≤ B) := by
  obtain ⟨r, h1, h2⟩ := sz_extents xs hx B h0 hB
  unfold laws_szFree.f
  rw [h1, Option.bind_some]
  by_cases hr : r < 0
  · exact ⟨-1, if_pos hr, Or.inl (by omega)⟩
  · obtain ⟨r2, h3, h4⟩ := sz_extents ys hy r (by omega) (by omega)
    rw [if_neg hr, h3, Option.bind_some]
    by_cases hr2 : r2 < 0
    · exact ⟨-1, if_pos hr2, Or.inl (by omega)⟩
    · exact ⟨r2, if_neg hr2, Or.inr (by omega)⟩
theorem to_free (b : Int) (xs ys : List S47) (hx : xs.length < 2 ^ 40) (hy : ys.length < 2 ^ 40) : Ev (fun k => laws_toFree.f k b xs ys) (b, xs.map convExtent, ys.map convExtent) :=
  Ev.bind (to_extents xs hx) (Ev.bind (to_extents ys hy) (Ev.now _))
theorem eq_free (b : Int) (xs ys : List S49) (hx : xs.length < 2 ^ 40) (hy : ys.length < 2 ^ 40) : Ev (fun k => laws_eqFree.f k b xs ys b xs ys) true :=
  evp rfl (Ev.bind (eq_extents xs hx) (evp rfl (Ev.bind (eq_extents ys hy) (evp rfl (Ev.now _)))))
theorem convE_len (ws : List S47) (hw : ws.length < 2 ^ 40) : (ws.map convExtent).length < 2 ^ 40 := by rw [List.length_map]; exact hw
/-- extents that rise, with room between, within B blocks, behind p -/
def chain (B : Int) : Int → List S49 → Bool
  | _, [] => true
  | p, x :: l => decide (p < x.f0 ∧ 0 ≤ x.f0 ∧ 1 ≤ x.f1 ∧ x.f0 + x.f1 ≤ B) && chain B (x.f0 + x.f1) l
def okB (B : Int) (l : List S49) : Bool := decide (1 ≤ B ∧ B ≤ 400) && decide (l.length ≤ 60)
theorem leE_trans (a b c : S49) (h1 : leE a b = true) (h2 : leE b c = true) : leE a c = true := by
  unfold leE at *
  rw [decide_eq_true_eq] at *
  omega
theorem leE_total (a b : S49) : (leE a b || leE b a) = true := by
  unfold leE
  rw [Bool.or_eq_true, decide_eq_true_eq, decide_eq_true_eq]
  omega
theorem leE_anti (a b : S49) (h1 : leE a b = true) (h2 : leE b a = true) : a = b := by
  unfold leE at *
  rw [decide_eq_true_eq] at *
  obtain ⟨a0, a1⟩ := a
  obtain ⟨b0, b1⟩ := b
  simp only at h1 h2
  have : a0 = b0 ∧ a1 = b1 := by omega
  rw [this.1, this.2]
theorem sortE_perm (l : List S49) : List.Perm (sortE l) l := by rw [sortE_eq]; exact List.mergeSort_perm l leE
theorem sortE_pair (l : List S49) : List.Pairwise (fun a b => leE a b = true) (sortE l) := by rw [sortE_eq]; exact List.pairwise_mergeSort leE_trans leE_total l
theorem sortE_uniq (l m : List S49) (hp : List.Perm m l) (hs : List.Pairwise (fun a b => leE a b = true) m) : m = sortE l :=
  List.Perm.eq_of_pairwise (fun a b _ _ h1 h2 => leE_anti a b h1 h2) hs (sortE_pair l) (hp.trans (sortE_perm l).symm)
theorem gat {α : Type} (z : α) {l : List α} {i : Nat} (h : i < l.length) : l.getD i z = l[i] := by rw [List.getD_eq_getElem?_getD, List.getElem?_eq_getElem h]; rfl
/-- put into a row by size -/
def insE (x : S49) : List S49 → List S49
  | [] => [x]
  | y :: l => if leE x y = true then x :: y :: l else y :: insE x l
theorem insE_perm (x : S49) : ∀ l : List S49, List.Perm (insE x l) (x :: l)
  | [] => List.Perm.refl _
  | y :: l => by
    rw [insE]
    split
    · exact List.Perm.refl _
    · exact ((insE_perm x l).cons y).trans (List.Perm.swap x y l)
theorem insE_pair (x : S49) : ∀ l : List S49, List.Pairwise (fun a b => leE a b = true) l → List.Pairwise (fun a b => leE a b = true) (insE x l)
  | [], _ => by rw [insE]; simp
  | y :: l, h => by
    rw [insE]
    split
    · rename_i hx
      refine List.Pairwise.cons (fun z hz => ?_) h
      rcases List.mem_cons.mp hz with rfl | hz
      · exact hx
      · exact leE_trans _ _ _ hx (List.rel_of_pairwise_cons h hz)
    · rename_i hx
      have hyx : leE y x = true := by
        have := leE_total x y
        rw [Bool.or_eq_true] at this
        exact this.resolve_left hx
      refine List.Pairwise.cons (fun z hz => ?_) (insE_pair x l (List.Pairwise.of_cons h))
      rcases List.mem_cons.mp ((insE_perm x l).mem_iff.mp hz) with rfl | hz
      · exact hyx
      · exact List.rel_of_pairwise_cons h hz
/-- how many come ahead -/
def cnt (x : S49) : List S49 → Nat
  | [] => 0
  | y :: l => if leE x y = true then 0 else cnt x l + 1
theorem insE_cnt (x : S49) : ∀ l : List S49, insE x l = l.take (cnt x l) ++ x :: l.drop (cnt x l)
  | [] => rfl
  | y :: l => by
    rw [insE, cnt]
    split
    · rfl
    · rw [insE_cnt x l]; rfl
theorem cnt_le (x : S49) : ∀ l : List S49, cnt x l ≤ l.length
  | [] => Nat.le_refl _
  | y :: l => by
    have := cnt_le x l
    rw [cnt]
    split
    · omega
    · simp only [List.length_cons]; omega
theorem cnt_before (x : S49) : ∀ (l : List S49) (i : Nat) (h : i < l.length), i < cnt x l → leE x l[i] = false
  | [], i, h, _ => by simp at h
  | y :: l, i, h, hi => by
    rw [cnt] at hi
    split at hi
    · omega
    · rename_i hx
      cases i with
      | zero => simpa using hx
      | succ i => exact cnt_before x l i (by simpa using h) (by omega)
theorem cnt_at (x : S49) : ∀ (l : List S49) (h : cnt x l < l.length), leE x l[cnt x l] = true
  | [], h => by simp [cnt] at h
  | y :: l, h => by
    by_cases hx : leE x y = true
    · have e : cnt x (y :: l) = 0 := by rw [cnt, if_pos hx]
      simp only [e]
      exact hx
    · have e : cnt x (y :: l) = cnt x l + 1 := by rw [cnt, if_neg hx]
      have h' : cnt x l < l.length := by rw [e] at h; simpa using h
      simp only [e]
      exact cnt_at x l h'
theorem less_f (y x : S49) : spec_l5Less.f y.f0 y.f1 x.f0 x.f1 = some (!(leE x y)) := by
  unfold spec_l5Less.f leE
  by_cases h1 : y.f1 < x.f1
  · rw [if_pos h1, decide_eq_false (by omega)]; rfl
  · rw [if_neg h1]
    by_cases h2 : y.f1 = x.f1
    · rw [if_pos h2]
      by_cases h3 : y.f0 < x.f0
      · rw [decide_eq_true h3, decide_eq_false (by omega)]; rfl
      · rw [decide_eq_false h3, decide_eq_true (by omega)]; rfl
    · rw [if_neg h2, decide_eq_true (by omega)]; rfl
theorem bysize1 (l : List S49) (out : List S49) (x : S49) (i : Nat) (r : List S49) (hl : l.length < 2 ^ 40) (ho : out.length < 2 ^ 40) (hr : Ev (fun k => spec_l5BySize.l0 k (insE x out) l (l.length : Int) ((i + 1 : Nat) : Int)) r) (hi : i < 2 ^ 41) (d : Nat) : ∀ (q : Nat), q + d = cnt x out →
    Ev (fun k => spec_l5BySize.l1 k out (q : Int) l (l.length : Int) (i : Int) x.f0 x.f1) r := by
  have hc := cnt_le x out
  induction d with
  | zero =>
    intro q hq
    have hq' : q = cnt x out := by omega
    have hins : insE x out = (([] : List S49) ++ out.take q) ++ [x] ++ out.drop q := by rw [hq', insE_cnt x out]; simp
    have hfin : ∀ k, spec_l5BySize.l1 (k + 1) out (q : Int) l (l.length : Int) (i : Int) x.f0 x.f1 = spec_l5BySize.l0 k (insE x out) l (l.length : Int) ((i + 1 : Nat) : Int) := fun k => by
      rw [spec_l5BySize.l1]
      have tl : (out.take q).length = q := by rw [List.length_take]; omega
      have dl : (out.drop q).length = out.length - q := List.length_drop
      by_cases hlt : (q : Int) < (out.length : Int)
      · have hq2 : q < out.length := by omega
        have hat := cnt_at x out (by omega)
        have hle : leE x out[q] = true := by simp only [hq']; exact hat
        rw [if_pos hlt, if_pos (by omega), rd_extent, gat z49 hq2, less_f, hle]
        simp only [Option.bind_some, Bool.not_true, Bool.false_eq_true, if_false, Int.toNat_natCast]
        rw [if_pos (by omega), if_pos (by simp only [List.length_nil]; omega), if_pos (by simp only [List.nil_append]; omega), if_pos (by simp only [List.nil_append, List.length_append, List.length_cons, List.length_nil]; omega), inc i (by omega), hins]
      · rw [if_neg hlt, if_pos (by omega), if_pos (by omega)]
        simp only [Option.bind_some, Int.toNat_natCast]
        rw [if_pos (by simp only [List.length_nil]; omega), if_pos (by simp only [List.nil_append]; omega), if_pos (by simp only [List.nil_append, List.length_append, List.length_cons, List.length_nil]; omega), inc i (by omega), hins]
    exact Ev.step hfin hr
  | succ d ih =>
    intro q hq
    have hq2 : q < out.length := by omega
    have hle := cnt_before x out q hq2 (by omega)
    refine Ev.step (fun k => ?_) (ih (q + 1) (by omega))
    rw [spec_l5BySize.l1, if_pos (by omega), if_pos (by omega), rd_extent, gat z49 hq2, less_f, hle]
    simp only [Option.bind_some, Bool.not_false, if_true]
    rw [inc q (by omega)]
theorem bysize0 (l : List S49) (hl : l.length < 2 ^ 30) (d : Nat) : ∀ (i : Nat) (out : List S49), i + d = l.length → out.length = i →
    ∃ r, Ev (fun k => spec_l5BySize.l0 k out l (l.length : Int) (i : Int)) r ∧ List.Perm r (out ++ l.drop i) ∧ (List.Pairwise (fun a b => leE a b = true) out → List.Pairwise (fun a b => leE a b = true) r) := by
  induction d with
  | zero =>
    intro i out hi ho
    exact ⟨out, Ev.step (fun k => by rw [spec_l5BySize.l0, if_neg (by omega)]) (Ev.now _), by rw [List.drop_eq_nil_of_le (by omega), List.append_nil], fun h => h⟩
  | succ d ih =>
    intro i out hi ho
    have hlt : i < l.length := by omega
    have hlen : (insE l[i] out).length = i + 1 := by rw [(insE_perm l[i] out).length_eq, List.length_cons]; omega
    obtain ⟨r, h1, h2, h3⟩ := ih (i + 1) (insE l[i] out) (by omega) hlen
    refine ⟨r, Ev.step (fun k => ?_) (bysize1 l out l[i] i r (by omega) (by omega) h1 (by omega) (cnt l[i] out) 0 (by omega)), ?_, fun h => h3 (insE_pair _ _ h)⟩
    · rw [spec_l5BySize.l0, if_pos (by omega), if_pos (by omega), if_pos (by omega), rd_extent, gat z49 hlt]
      rfl
    · rw [List.drop_eq_getElem_cons hlt]
      exact h2.trans (((insE_perm l[i] out).append_right _).trans List.perm_middle.symm)
theorem bysize (l : List S49) (hl : l.length < 2 ^ 30) : Ev (fun k => spec_l5BySize.f k l) (sortE l) := by
  obtain ⟨r, h1, h2, h3⟩ := bysize0 l hl l.length 0 [] (by omega) rfl
  rw [List.drop_zero, List.nil_append] at h2
  rw [← sortE_uniq l r h2 (h3 List.Pairwise.nil)]
  exact h1

theorem addw (a b : Int) (h : -9223372036854775808 ≤ a + b) (h' : a + b < 9223372036854775808) : wrap64 (a + b) = a + b := by unfold wrap64; omega
theorem subw (a b : Int) (h : -9223372036854775808 ≤ a - b) (h' : a - b < 9223372036854775808) : wrap64 (a - b) = a - b := by unfold wrap64; omega
/-- where the extent ahead of number i ends -/
def prevE (l : List S49) (i : Nat) : Int := if i = 0 then -1 else (l.getD (i - 1) z49).f0 + (l.getD (i - 1) z49).f1
theorem chain_get (B : Int) (l : List S49) : ∀ (p : Int), chain B p l = true → ∀ (i : Nat) (h : i < l.length), 0 ≤ l[i].f0 ∧ 1 ≤ l[i].f1 ∧ l[i].f0 + l[i].f1 ≤ B := by
  induction l with
  | nil => intro p _ i h; simp at h
  | cons x l ih =>
    intro p hc i h
    rw [chain, Bool.and_eq_true, decide_eq_true_eq] at hc
    cases i with
    | zero => exact hc.1.2
    | succ i => exact ih _ hc.2 i (by simpa using h)
theorem prevE_succ (l : List S49) (i : Nat) (h : i < l.length) : prevE l (i + 1) = l[i].f0 + l[i].f1 := by
  unfold prevE
  rw [if_neg (by omega), Nat.add_sub_cancel, gat z49 h]
theorem place_l (l : List S49) (B : Int) (hB : -9223372036854775808 ≤ B ∧ B < 9223372036854775808) (hl : l.length < 2 ^ 40) (d : Nat) : ∀ (i : Nat), i + d = l.length → (i = 0 ∨ ∃ h : i - 1 < l.length, 0 ≤ l[i - 1].f0 ∧ 1 ≤ l[i - 1].f1 ∧ l[i - 1].f0 + l[i - 1].f1 ≤ B) →
    (∀ x ∈ l, -9223372036854775808 ≤ x.f0 ∧ x.f0 < 9223372036854775808 ∧ -9223372036854775808 ≤ x.f1 ∧ x.f1 < 9223372036854775808) →
    Ev (fun k => spec_l5Place.l0 k l B l (l.length : Int) (i : Int)) (chain B (prevE l i) (l.drop i) && okB B l) := by
  induction d with
  | zero =>
    intro i hi _ _
    rw [List.drop_eq_nil_of_le (by omega), chain, Bool.true_and]
    refine Ev.step (fun k => by rw [spec_l5Place.l0, if_neg (by omega), l1In_tells]) ?_
    refine ev_some ?_
    unfold okB
    by_cases h : 1 ≤ B ∧ B ≤ 400
    · refine evp (decide_eq_true (by omega)) ?_
      rw [decide_eq_true h, Bool.true_and]
      exact Ev.congr (fun _ => by congr 1; rw [decide_eq_decide]; omega) (Ev.now _)
    · refine evn (by rw [decide_eq_true_eq]; omega) ?_
      rw [decide_eq_false h, Bool.false_and]
      exact Ev.now _
  | succ d ih =>
    intro i hi hp hw
    have hlt : i < l.length := by omega
    have hx := hw l[i] (List.getElem_mem hlt)
    rw [List.drop_eq_getElem_cons hlt, chain]
    have hrd := gat z49 hlt
    by_cases hc : prevE l i < l[i].f0 ∧ 0 ≤ l[i].f0 ∧ 1 ≤ l[i].f1 ∧ l[i].f0 + l[i].f1 ≤ B
    · rw [decide_eq_true hc, Bool.true_and, ← prevE_succ l i hlt]
      refine Ev.step (fun k => ?_) (ih (i + 1) (by omega) (Or.inr ⟨by omega, by simp only [Nat.add_sub_cancel]; exact hc.2⟩) hw)
      rw [spec_l5Place.l0, if_pos (by omega), if_pos (by omega), if_pos (by omega), rd_extent, hrd, if_neg (by omega), if_neg (by omega), if_neg (by omega), subw B _ (by omega) (by omega), if_neg (by omega)]
      by_cases h0 : i = 0
      · rw [if_neg (by omega), inc i (by omega)]
      · obtain ⟨hq, hq1⟩ := hp.resolve_left h0
        have e1 : wrap64 ((i : Int) - 1) = ((i - 1 : Nat) : Int) := by unfold wrap64; omega
        have hpv : prevE l i = l[i - 1].f0 + l[i - 1].f1 := by unfold prevE; rw [if_neg h0, gat z49 hq]
        rw [if_pos (by omega), e1, if_pos (by omega), if_pos (by omega), rd_extent, gat z49 hq, addw _ _ (by omega) (by omega), if_neg (by omega), inc i (by omega)]
    · rw [decide_eq_false hc, Bool.false_and, Bool.false_and]
      refine Ev.step (f := fun _ => some false) (fun k => ?_) (Ev.now _)
      rw [spec_l5Place.l0, if_pos (by omega), if_pos (by omega), if_pos (by omega), rd_extent, hrd]
      by_cases c1 : l[i].f0 < 0
      · rw [if_pos c1]
      rw [if_neg c1]
      by_cases c2 : l[i].f1 < 1
      · rw [if_pos c2]
      rw [if_neg c2]
      by_cases c3 : l[i].f1 > B
      · rw [if_pos c3]
      rw [if_neg c3, subw B _ (by omega) (by omega)]
      by_cases c4 : l[i].f0 > B - l[i].f1
      · rw [if_pos c4]
      rw [if_neg c4]
      have h0 : i ≠ 0 := by
        rintro rfl
        exact hc ⟨by unfold prevE; rw [if_pos rfl]; omega, by omega⟩
      obtain ⟨hq, hq1⟩ := hp.resolve_left h0
      have e1 : wrap64 ((i : Int) - 1) = ((i - 1 : Nat) : Int) := by unfold wrap64; omega
      have hpv : prevE l i = l[i - 1].f0 + l[i - 1].f1 := by unfold prevE; rw [if_neg h0, gat z49 hq]
      rw [if_pos (by omega), e1, if_pos (by omega), if_pos (by omega), rd_extent, gat z49 hq, addw _ _ (by omega) (by omega), if_pos (by omega)]
/-- whether all numbers fit -/
def fits (l : List S49) : Prop := ∀ x ∈ l, -9223372036854775808 ≤ x.f0 ∧ x.f0 < 9223372036854775808 ∧ -9223372036854775808 ≤ x.f1 ∧ x.f1 < 9223372036854775808
theorem place (l : List S49) (B : Int) (hB : -9223372036854775808 ≤ B ∧ B < 9223372036854775808) (hl : l.length < 2 ^ 40) (hw : fits l) : Ev (fun k => spec_l5Place.f k l B) (chain B (-1) l && okB B l) := by
  have h := place_l l B hB hl l.length 0 (by omega) (Or.inl rfl) hw
  rw [List.drop_zero] at h
  exact h
theorem ext49 (x y : S49) : ((x.f0 == y.f0) && (x.f1 == y.f1)) = true ↔ x = y := by
  obtain ⟨x0, x1⟩ := x
  obtain ⟨y0, y1⟩ := y
  simp
/-- '==' of rows -/
def sameE : List S49 → List S49 → Bool
  | [], [] => true
  | x :: l, y :: m => ((x.f0 == y.f0) && (x.f1 == y.f1)) && sameE l m
  | _, _ => false
theorem sameE_iff : ∀ (l m : List S49), sameE l m = true ↔ l = m
  | [], [] => by simp [sameE]
  | [], y :: m => by simp [sameE]
  | x :: l, [] => by simp [sameE]
  | x :: l, y :: m => by rw [sameE, Bool.and_eq_true, ext49, sameE_iff l m, List.cons.injEq]
theorem neE (x y : S49) : (!(x.f0 == y.f0) || !(x.f1 == y.f1)) = !((x.f0 == y.f0) && (x.f1 == y.f1)) := by cases (x.f0 == y.f0) <;> cases (x.f1 == y.f1) <;> rfl
theorem same_l (l m : List S49) (hl : l.length < 2 ^ 40) (he : l.length = m.length) (d : Nat) : ∀ (i : Nat), i + d = l.length →
    Ev (fun k => spec_l5Same.l0 k l m (l.length : Int) (i : Int)) (sameE (l.drop i) (m.drop i)) ∧ Ev (fun k => impl_Extent_46.l0 k l m (l.length : Int) (i : Int)) (sameE (l.drop i) (m.drop i)) := by
  induction d with
  | zero =>
    intro i hi
    rw [List.drop_eq_nil_of_le (by omega), List.drop_eq_nil_of_le (by omega), sameE]
    exact ⟨Ev.step (fun k => by rw [spec_l5Same.l0, if_neg (by omega)]) (Ev.now _), Ev.step (fun k => by rw [impl_Extent_46.l0, if_neg (by omega)]) (Ev.now _)⟩
  | succ d ih =>
    intro i hi
    have h1 : i < l.length := by omega
    have h2 : i < m.length := by omega
    have hih := ih (i + 1) (by omega)
    rw [List.drop_eq_getElem_cons h1, List.drop_eq_getElem_cons h2, sameE]
    have s1 : ∀ k, spec_l5Same.l0 (k + 1) l m (l.length : Int) (i : Int) = if (!((l[i].f0 == m[i].f0) && (l[i].f1 == m[i].f1))) = true then some false else spec_l5Same.l0 k l m (l.length : Int) ((i + 1 : Nat) : Int) := fun k => by
      rw [spec_l5Same.l0, if_pos (by omega), if_pos (by omega), if_pos (by omega), if_pos (by omega), rd_extent, rd_extent, gat z49 h1, gat z49 h2, neE, inc i (by omega)]
    have s2 : ∀ k, impl_Extent_46.l0 (k + 1) l m (l.length : Int) (i : Int) = if (!((l[i].f0 == m[i].f0) && (l[i].f1 == m[i].f1))) = true then some false else impl_Extent_46.l0 k l m (l.length : Int) ((i + 1 : Nat) : Int) := fun k => by
      rw [impl_Extent_46.l0, if_pos (by omega), if_pos (by omega), if_pos (by omega), if_pos (by omega), rd_extent, rd_extent, gat z49 h1, gat z49 h2, neE, inc i (by omega)]
    refine ⟨Ev.step s1 ?_, Ev.step s2 ?_⟩
    · cases ((l[i].f0 == m[i].f0) && (l[i].f1 == m[i].f1))
      · exact evp rfl (Ev.now _)
      · exact evn (by decide) hih.1
    · cases ((l[i].f0 == m[i].f0) && (l[i].f1 == m[i].f1))
      · exact evp rfl (Ev.now _)
      · exact evn (by decide) hih.2
theorem sameE_len : ∀ (l m : List S49), l.length ≠ m.length → sameE l m = false
  | [], [], h => by simp at h
  | [], y :: m, _ => rfl
  | x :: l, [], _ => rfl
  | x :: l, y :: m, h => by rw [sameE, sameE_len l m (fun e => h (by simp [e])), Bool.and_false]
theorem same (l m : List S49) (hl : l.length < 2 ^ 40) : Ev (fun k => spec_l5Same.f k l m) (sameE l m) ∧ Ev (fun k => impl_Extent_46.f k l m) (sameE l m) := by
  unfold spec_l5Same.f impl_Extent_46.f
  by_cases he : l.length = m.length
  · have h := same_l l m hl he l.length 0 (by omega)
    rw [List.drop_zero, List.drop_zero] at h
    exact ⟨evp (by omega) h.1, evp (by omega) h.2⟩
  · rw [sameE_len l m he]
    exact ⟨evn (by omega) (Ev.now _), evn (by omega) (Ev.now _)⟩
/-- what free space's form asks -/
def goodF (B : Int) (p s : List S49) : Bool := (chain B (-1) p && okB B p) && sameE (sortE p) s
theorem spec_goodF (B : Int) (p s : List S49) (hB : -9223372036854775808 ≤ B ∧ B < 9223372036854775808) (hl : p.length < 2 ^ 30) (hw : fits p) : Ev (fun k => spec_GoodFree.f k B p s) (goodF B p s) := by
  unfold spec_GoodFree.f goodF
  refine Ev.bind (place p B hB (by omega) hw) ?_
  cases chain B (-1) p && okB B p
  · exact evn (by decide) (Ev.now _)
  · exact evp rfl (Ev.bind (bysize p hl) (Ev.bind (same _ s (by rw [sortE_len]; omega)).1 (by rw [Bool.true_and]; exact Ev.now _)))
theorem isExtent_f (a l B : Int) (hB : 0 ≤ B ∧ B ≤ 400) (ha : -9223372036854775808 ≤ a ∧ a < 9223372036854775808) : impl_isExtent.f a l B = some (decide (0 ≤ a ∧ 1 ≤ l ∧ a + l ≤ B)) := by
  unfold impl_isExtent.f
  rw [subw B 1 (by omega) (by omega), within_tells, Option.bind_some]
  by_cases h : a ≥ 0 ∧ a ≤ B - 1
  · rw [decide_eq_true h, if_pos rfl, subw B a (by omega) (by omega), within_tells, Option.bind_some]
    congr 1
    rw [decide_eq_decide]
    omega
  · rw [decide_eq_false h, if_neg (by decide)]
    congr 1
    exact (decide_eq_false (by omega)).symm
theorem implgood_l (B : Int) (p s : List S49) (hB : 1 ≤ B ∧ B ≤ 400) (hl : p.length < 2 ^ 30) (hw : fits p) (d : Nat) : ∀ (i : Nat), i + d = p.length → (i = 0 ∨ ∃ h : i - 1 < p.length, 0 ≤ p[i - 1].f0 ∧ 1 ≤ p[i - 1].f1 ∧ p[i - 1].f0 + p[i - 1].f1 ≤ B) →
    Ev (fun k => impl_GoodFree.l0 k p (p.length : Int) (i : Int) B p s) (chain B (prevE p i) (p.drop i) && sameE (sortE p) s) := by
  induction d with
  | zero =>
    intro i hi _
    rw [List.drop_eq_nil_of_le (by omega), chain, Bool.true_and]
    refine Ev.step (fun k => by rw [impl_GoodFree.l0, if_neg (by omega)]) (ev_to_some (show impl_freeOf.f B p = some (sortE p) by unfold impl_freeOf.f; rw [if_pos (by omega)]) ?_)
    exact Ev.bind (same _ s (by rw [sortE_len]; omega)).2 (Ev.now _)
  | succ d ih =>
    intro i hi hp
    have hlt : i < p.length := by omega
    have hx := hw p[i] (List.getElem_mem hlt)
    rw [List.drop_eq_getElem_cons hlt, chain]
    have hrd := gat z49 hlt
    have hst : ∀ k, impl_GoodFree.l0 (k + 1) p (p.length : Int) (i : Int) B p s = if decide (0 ≤ p[i].f0 ∧ 1 ≤ p[i].f1 ∧ p[i].f0 + p[i].f1 ≤ B) = true then (if (i : Int) > 0 then (if 0 ≤ wrap64 ((i : Int) - 1) then (if wrap64 ((i : Int) - 1) < (p.length : Int) then (if p[i].f0 ≤ wrap64 ((rd_T49 p (wrap64 ((i : Int) - 1))).f0 + (rd_T49 p (wrap64 ((i : Int) - 1))).f1) then some false else impl_GoodFree.l0 k p (p.length : Int) (wrap64 ((i : Int) + 1)) B p s) else none) else none) else impl_GoodFree.l0 k p (p.length : Int) (wrap64 ((i : Int) + 1)) B p s) else some false := fun k => by
      rw [impl_GoodFree.l0, if_pos (by omega), if_pos (by omega), if_pos (by omega), rd_extent, hrd, isExtent_f _ _ _ (by omega) (by omega), Option.bind_some]
    refine Ev.step hst ?_
    by_cases hc : 0 ≤ p[i].f0 ∧ 1 ≤ p[i].f1 ∧ p[i].f0 + p[i].f1 ≤ B
    · refine evp (decide_eq_true hc) ?_
      by_cases h0 : i = 0
      · refine evn (by omega) ?_
        have hpv : prevE p i = -1 := by unfold prevE; rw [if_pos h0]
        rw [decide_eq_true (show prevE p i < p[i].f0 ∧ 0 ≤ p[i].f0 ∧ 1 ≤ p[i].f1 ∧ p[i].f0 + p[i].f1 ≤ B from ⟨by omega, hc⟩), Bool.true_and, ← prevE_succ p i hlt, inc i (by omega)]
        exact ih (i + 1) (by omega) (Or.inr ⟨by omega, by simpa using hc⟩)
      · obtain ⟨hq, hq1⟩ := hp.resolve_left h0
        have e1 : wrap64 ((i : Int) - 1) = ((i - 1 : Nat) : Int) := by unfold wrap64; omega
        have hpv : prevE p i = p[i - 1].f0 + p[i - 1].f1 := by unfold prevE; rw [if_neg h0, gat z49 hq]
        rw [e1]
        refine evp (by omega) (evp (by omega) (evp (by omega) ?_))
        rw [rd_extent, gat z49 hq, addw _ _ (by omega) (by omega), inc i (by omega)]
        by_cases hlt2 : p[i].f0 ≤ p[i - 1].f0 + p[i - 1].f1
        · rw [decide_eq_false (by omega), Bool.false_and, Bool.false_and]
          exact evp hlt2 (Ev.now _)
        · rw [decide_eq_true (show prevE p i < p[i].f0 ∧ 0 ≤ p[i].f0 ∧ 1 ≤ p[i].f1 ∧ p[i].f0 + p[i].f1 ≤ B from ⟨by omega, hc⟩), Bool.true_and, ← prevE_succ p i hlt]
          exact evn hlt2 (ih (i + 1) (by omega) (Or.inr ⟨by omega, by simpa using hc⟩))
    · rw [decide_eq_false (show ¬ (prevE p i < p[i].f0 ∧ 0 ≤ p[i].f0 ∧ 1 ≤ p[i].f1 ∧ p[i].f0 + p[i].f1 ≤ B) from fun h => hc h.2), Bool.false_and, Bool.false_and]
      exact evn (by rw [decide_eq_true_eq]; exact hc) (Ev.now _)
theorem impl_goodF (B : Int) (p s : List S49) (hl : p.length < 2 ^ 30) (hw : fits p) : Ev (fun k => impl_GoodFree.f k B p s) (goodF B p s) := by
  unfold impl_GoodFree.f goodF okB
  refine ev_to_some (within_tells _ _ _) ?_
  by_cases h : 1 ≤ B ∧ B ≤ 400
  · refine evp (decide_eq_true (by omega)) ?_
    rw [decide_eq_true h, Bool.true_and]
    by_cases h6 : p.length ≤ 60
    · rw [decide_eq_false (show ¬ ((p.length : Int) > 60) by omega), decide_eq_true h6, Bool.and_true]
      have hh := implgood_l B p s h hl hw p.length 0 (by omega) (Or.inl rfl)
      rw [List.drop_zero] at hh
      exact Ev.step (fun k => by rw [impl_GoodFree.j0, if_neg (by decide)]; rfl) hh
    · rw [decide_eq_true (show ((p.length : Int) > 60) by omega), decide_eq_false h6, Bool.and_false, Bool.false_and]
      exact Ev.step (fun k => by rw [impl_GoodFree.j0, if_pos rfl]) (Ev.now _)
  · refine evn (by rw [decide_eq_true_eq]; omega) ?_
    rw [decide_eq_false h, Bool.false_and, Bool.and_false, Bool.false_and]
    exact Ev.step (fun k => by rw [impl_GoodFree.j0, if_pos rfl]) (Ev.now _)
theorem fits_conv (xs : List S47) (h : ∀ x ∈ xs, okS47 x) : fits (xs.map convExtent) := by
  intro y hy
  obtain ⟨x, hx, rfl⟩ := List.mem_map.mp hy
  have := h x hx
  unfold okS47 at this
  have h1 := bounds_i64 this.1
  have h2 := bounds_i64 this.2
  unfold convExtent
  simp only
  omega

theorem goodF_chain {B : Int} {p s : List S49} (h : goodF B p s = true) : chain B (-1) p = true ∧ (1 ≤ B ∧ B ≤ 400) ∧ p.length ≤ 60 ∧ s = sortE p := by
  unfold goodF okB at h
  simp only [Bool.and_eq_true, decide_eq_true_eq, sameE_iff] at h
  exact ⟨h.1.1, h.1.2.1, h.1.2.2, h.2.symm⟩
theorem chain_mem {B : Int} {p : List S49} {q : Int} (h : chain B q p = true) (x : S49) (hx : x ∈ p) : 0 ≤ x.f0 ∧ 1 ≤ x.f1 ∧ x.f0 + x.f1 ≤ B := by
  obtain ⟨i, hi, rfl⟩ := List.getElem_of_mem hx
  exact chain_get B p q h i hi

def inE (a : Int) (x : S49) : Bool := decide (x.f0 ≤ a ∧ a < x.f0 + x.f1)
def isIn (l : List S49) (a : Int) : Bool := l.any (inE a)
/-- n answers -/
def bm (n : Nat) (f : Int → Bool) : List Bool := (List.range n).map fun a : Nat => f (a : Int)
theorem bm_len (n : Nat) (f : Int → Bool) : (bm n f).length = n := by simp [bm]
theorem bm_get (n : Nat) (f : Int → Bool) (j : Nat) (h : j < n) : (bm n f).getD j false = f (j : Int) := by simp [bm, List.getD_eq_getElem?_getD, h]
theorem bm_set (n : Nat) (f : Int → Bool) (j : Nat) (v : Bool) (h : j < n) : (bm n f).set j v = bm n (fun a => if a = (j : Int) then v else f a) := by
  refine gext false (by rw [List.length_set, bm_len, bm_len]) (fun q hq => ?_)
  rw [List.length_set, bm_len] at hq
  rw [gset false _ _ _ _ (by rw [bm_len]; exact h), bm_get _ _ _ hq, bm_get _ _ _ hq]
  by_cases e : q = j
  · rw [if_pos e, if_pos (by omega)]
  · rw [if_neg e, if_neg (by omega)]
theorem bm_congr {n : Nat} {f g : Int → Bool} (h : ∀ a : Int, 0 ≤ a → a < n → f a = g a) : bm n f = bm n g := by
  unfold bm
  exact List.map_congr_left (fun j hj => h _ (by omega) (by have := List.mem_range.mp hj; omega))
theorem isfree1 (n : Nat) (hn : n ≤ 400) (p : List S49) (hl : p.length ≤ 60) (i : Nat) (hi : i < p.length) (hx : 0 ≤ p[i].f0 ∧ 1 ≤ p[i].f1 ∧ p[i].f0 + p[i].f1 ≤ n) (r : List Bool) (d : Nat) : ∀ (q : Nat) (f : Int → Bool), (q : Int) + d = p[i].f1 →
    Ev (fun k => impl_Free_isFree.l0 k (bm n (fun a => f a || decide (p[i].f0 + q ≤ a ∧ a < p[i].f0 + p[i].f1))) p (p.length : Int) ((i + 1 : Nat) : Int)) r →
    Ev (fun k => impl_Free_isFree.l1 k (bm n f) p (p.length : Int) (i : Int) p[i].f1 (q : Int) p[i].f0 p[i].f1) r := by
  induction d with
  | zero =>
    intro q f hq hr
    have e : bm n (fun a => f a || decide (p[i].f0 + q ≤ a ∧ a < p[i].f0 + p[i].f1)) = bm n f := bm_congr (fun a _ _ => by rw [decide_eq_false (by omega), Bool.or_false])
    rw [e] at hr
    exact Ev.step (fun k => by rw [impl_Free_isFree.l1, if_neg (by omega), inc i (by omega)]) hr
  | succ d ih =>
    intro q f hq hr
    have hj : (p[i].f0 + q).toNat < n := by omega
    have e0 : (((p[i].f0 + q).toNat : Nat) : Int) = p[i].f0 + q := by omega
    refine Ev.step (fun k => ?_) (ih (q + 1) (fun a => if a = (((p[i].f0 + q).toNat : Nat) : Int) then true else f a) (by omega) ?_)
    · rw [impl_Free_isFree.l1, if_pos (by omega), addw _ _ (by omega) (by omega), if_pos (by omega), if_pos (by rw [bm_len]; omega), inc q (by omega), bm_set n f _ true hj]
    · have e : bm n (fun a => (fun a => if a = (((p[i].f0 + q).toNat : Nat) : Int) then true else f a) a || decide (p[i].f0 + ((q + 1 : Nat) : Int) ≤ a ∧ a < p[i].f0 + p[i].f1)) = bm n (fun a => f a || decide (p[i].f0 + q ≤ a ∧ a < p[i].f0 + p[i].f1)) := bm_congr (fun a _ _ => by
        show ((if a = (((p[i].f0 + q).toNat : Nat) : Int) then true else f a) || decide (p[i].f0 + ((q + 1 : Nat) : Int) ≤ a ∧ a < p[i].f0 + p[i].f1)) = _
        rw [e0]
        by_cases h : a = p[i].f0 + q
        · rw [if_pos h, decide_eq_true (show p[i].f0 + q ≤ a ∧ a < p[i].f0 + p[i].f1 by omega), Bool.or_true, Bool.true_or]
        · rw [if_neg h]
          congr 1
          rw [decide_eq_decide]
          omega)
      rw [e]
      exact hr
theorem isfree0 (n : Nat) (hn : n ≤ 400) (p : List S49) (hl : p.length ≤ 60) (hx : ∀ x ∈ p, 0 ≤ x.f0 ∧ 1 ≤ x.f1 ∧ x.f0 + x.f1 ≤ n) (d : Nat) : ∀ (i : Nat) (f : Int → Bool), i + d = p.length →
    Ev (fun k => impl_Free_isFree.l0 k (bm n f) p (p.length : Int) (i : Int)) (bm n (fun a => f a || isIn (p.drop i) a)) := by
  induction d with
  | zero =>
    intro i f hi
    rw [List.drop_eq_nil_of_le (by omega)]
    have e : bm n (fun a => f a || isIn [] a) = bm n f := bm_congr (fun a _ _ => by simp [isIn])
    rw [e]
    exact Ev.step (fun k => by rw [impl_Free_isFree.l0, if_neg (by omega)]) (Ev.now _)
  | succ d ih =>
    intro i f hi
    have hlt : i < p.length := by omega
    have hxi := hx _ (List.getElem_mem hlt)
    refine Ev.step (fun k => by rw [impl_Free_isFree.l0, if_pos (by omega), if_pos (by omega), if_pos (by omega), rd_extent, gat z49 hlt]; rfl) (isfree1 n hn p hl i hlt hxi _ p[i].f1.toNat 0 f (by omega) ?_)
    have := ih (i + 1) (fun a => f a || decide (p[i].f0 + ((0 : Nat) : Int) ≤ a ∧ a < p[i].f0 + p[i].f1)) (by omega)
    have e : bm n (fun a => (fun a => f a || decide (p[i].f0 + ((0 : Nat) : Int) ≤ a ∧ a < p[i].f0 + p[i].f1)) a || isIn (p.drop (i + 1)) a) = bm n (fun a => f a || isIn (p.drop i) a) := bm_congr (fun a _ _ => by
      show ((f a || decide (p[i].f0 + ((0 : Nat) : Int) ≤ a ∧ a < p[i].f0 + p[i].f1)) || isIn (p.drop (i + 1)) a) = _
      rw [List.drop_eq_getElem_cons hlt]
      unfold isIn
      rw [List.any_cons, Bool.or_assoc]
      congr 2
      unfold inE
      rw [decide_eq_decide]
      omega)
    rw [e] at this
    exact this
theorem isfree (B : Int) (p s : List S49) (hB : 0 ≤ B ∧ B ≤ 400) (hl : p.length ≤ 60) (hx : ∀ x ∈ p, 0 ≤ x.f0 ∧ 1 ≤ x.f1 ∧ x.f0 + x.f1 ≤ B) : Ev (fun k => impl_Free_isFree.f k B p s) (bm B.toNat (isIn p)) := by
  unfold impl_Free_isFree.f
  refine evp hB.1 (evp (by omega) ?_)
  have e0 : List.replicate B.toNat false = bm B.toNat (fun _ => false) := by simp [bm, List.map_const']
  have h := isfree0 B.toNat (by omega) p hl (fun x hxx => by have := hx x hxx; omega) p.length 0 (fun _ => false) (by omega)
  rw [List.drop_zero] at h
  have e1 : bm B.toNat (fun a => (fun _ => false) a || isIn p a) = bm B.toNat (isIn p) := bm_congr (fun a _ _ => by simp)
  rw [e1] at h
  rw [e0]
  exact h

/-- an extent that holds [a, a + b) -/
def holdsE (a b : Int) (x : S49) : Bool := decide (x.f0 ≤ a ∧ a + b ≤ x.f0 + x.f1)
def idxW (a b : Int) : List S49 → Int → Int
  | [], _ => -1
  | x :: l, i => if holdsE a b x = true then i else idxW a b l (i + 1)
theorem within_l (p : List S49) (a b : Int) (hl : p.length ≤ 60) (hx : ∀ x ∈ p, 0 ≤ x.f0 ∧ 1 ≤ x.f1 ∧ x.f0 + x.f1 ≤ 400) (hab : -1000 ≤ a + b ∧ a + b ≤ 1000) (d : Nat) : ∀ (i : Nat), i + d = p.length →
    Ev (fun k => spec_l5Within.l0 k p (p.length : Int) (i : Int) a b) (idxW a b (p.drop i) (i : Int)) := by
  induction d with
  | zero =>
    intro i hi
    rw [List.drop_eq_nil_of_le (by omega), idxW]
    exact Ev.step (fun k => by rw [spec_l5Within.l0, if_neg (by omega)]) (Ev.now _)
  | succ d ih =>
    intro i hi
    have hlt : i < p.length := by omega
    have hxi := hx _ (List.getElem_mem hlt)
    rw [List.drop_eq_getElem_cons hlt, idxW]
    unfold holdsE
    by_cases hc : p[i].f0 ≤ a ∧ a + b ≤ p[i].f0 + p[i].f1
    · rw [decide_eq_true hc, if_pos rfl]
      exact Ev.step (fun k => by rw [spec_l5Within.l0, if_pos (by omega), if_pos (by omega), if_pos (by omega), rd_extent, gat z49 hlt, if_pos hc.1, addw _ _ (by omega) (by omega), addw _ _ (by omega) (by omega), if_pos hc.2]) (Ev.now _)
    · rw [decide_eq_false hc, if_neg (by decide)]
      refine Ev.step (fun k => ?_) (ih (i + 1) (by omega))
      rw [spec_l5Within.l0, if_pos (by omega), if_pos (by omega), if_pos (by omega), rd_extent, gat z49 hlt]
      by_cases h1 : p[i].f0 ≤ a
      · rw [if_pos h1, addw _ _ (by omega) (by omega), addw _ _ (by omega) (by omega), if_neg (by omega), inc i (by omega)]
      · rw [if_neg h1, inc i (by omega)]
theorem within (p : List S49) (a b : Int) (hl : p.length ≤ 60) (hx : ∀ x ∈ p, 0 ≤ x.f0 ∧ 1 ≤ x.f1 ∧ x.f0 + x.f1 ≤ 400) (hab : -1000 ≤ a + b ∧ a + b ≤ 1000) : Ev (fun k => spec_l5Within.f k p a b) (idxW a b p 0) := by
  have := within_l p a b hl hx hab p.length 0 (by omega)
  rw [List.drop_zero] at this
  exact this
theorem idxW_ge (a b : Int) : ∀ (l : List S49) (i : Int), 0 ≤ i → decide (idxW a b l i ≥ 0) = l.any (holdsE a b)
  | [], i, _ => rfl
  | x :: l, i, h => by
    rw [idxW, List.any_cons]
    by_cases hh : holdsE a b x = true
    · rw [if_pos hh, hh, decide_eq_true (by omega)]; rfl
    · rw [if_neg hh, idxW_ge a b l (i + 1) (by omega)]
      have : holdsE a b x = false := by simpa using hh
      rw [this, Bool.false_or]

theorem chain_cons {B p : Int} {x : S49} {l : List S49} (h : chain B p (x :: l) = true) : (p < x.f0 ∧ 0 ≤ x.f0 ∧ 1 ≤ x.f1 ∧ x.f0 + x.f1 ≤ B) ∧ chain B (x.f0 + x.f1) l = true := by
  rw [chain, Bool.and_eq_true, decide_eq_true_eq] at h
  exact h
theorem chain_mk {B p : Int} {x : S49} {l : List S49} (h : p < x.f0 ∧ 0 ≤ x.f0 ∧ 1 ≤ x.f1 ∧ x.f0 + x.f1 ≤ B) (h2 : chain B (x.f0 + x.f1) l = true) : chain B p (x :: l) = true := by
  rw [chain, Bool.and_eq_true, decide_eq_true_eq]
  exact ⟨h, h2⟩
theorem chain_low {B : Int} {l : List S49} : ∀ {p q : Int}, q ≤ p → chain B p l = true → chain B q l = true := by
  intro p q h hc
  cases l with
  | nil => rfl
  | cons x l => obtain ⟨h1, h2⟩ := chain_cons hc; exact chain_mk (by omega) h2
theorem isIn_cons (x : S49) (l : List S49) (a : Int) : isIn (x :: l) a = (inE a x || isIn l a) := by unfold isIn; rw [List.any_cons]
theorem inE_t {a : Int} {x : S49} (h : x.f0 ≤ a ∧ a < x.f0 + x.f1) : inE a x = true := decide_eq_true h
theorem inE_f {a : Int} {x : S49} (h : ¬ (x.f0 ≤ a ∧ a < x.f0 + x.f1)) : inE a x = false := decide_eq_false h
theorem isIn_low {B : Int} : ∀ {l : List S49} {p a : Int}, chain B p l = true → a ≤ p → isIn l a = false
  | [], _, _, _, _ => rfl
  | x :: l, p, a, hc, ha => by
    obtain ⟨h1, h2⟩ := chain_cons hc
    rw [isIn_cons, inE_f (by omega), isIn_low h2 (by omega)]
    rfl
/-- what a merge has, when it is at q -/
def clip (q : Int) : List S49 → List S49
  | [] => []
  | x :: l => if x.f0 < q then ⟨x.f0, if x.f0 + x.f1 ≤ q then x.f1 else q - x.f0⟩ :: clip q l else []
/-- one more block of the merge -/
def stepM (a : Int) : List S49 → List S49
  | [] => [⟨a, 1⟩]
  | x :: l => if l = [] then (if x.f0 + x.f1 = a then [⟨x.f0, x.f1 + 1⟩] else [x, ⟨a, 1⟩]) else x :: stepM a l
theorem clip_none {B : Int} {l : List S49} {p q : Int} (hc : chain B p l = true) (h : q ≤ p + 1) : clip q l = [] := by
  cases l with
  | nil => rfl
  | cons x l => obtain ⟨h1, _⟩ := chain_cons hc; rw [clip, if_neg (by omega)]
theorem clip_all {B : Int} : ∀ {l : List S49} {p : Int}, chain B p l = true → clip B l = l
  | [], _, _ => rfl
  | x :: l, p, hc => by
    obtain ⟨h1, h2⟩ := chain_cons hc
    rw [clip, if_pos (by omega), if_pos h1.2.2.2, clip_all h2]
theorem clip_mem {B : Int} : ∀ {l : List S49} {p q : Int}, chain B p l = true → ∀ x ∈ clip q l, 0 ≤ x.f0 ∧ 1 ≤ x.f1 ∧ x.f0 + x.f1 ≤ B
  | [], _, _, _, x, hx => by cases hx
  | y :: l, p, q, hc, x, hx => by
    obtain ⟨h1, h2⟩ := chain_cons hc
    rw [clip] at hx
    by_cases hq : y.f0 < q
    · rw [if_pos hq] at hx
      rcases List.mem_cons.mp hx with rfl | hx
      · show 0 ≤ y.f0 ∧ 1 ≤ (if y.f0 + y.f1 ≤ q then y.f1 else q - y.f0) ∧ y.f0 + (if y.f0 + y.f1 ≤ q then y.f1 else q - y.f0) ≤ B
        split <;> omega
      · exact clip_mem h2 x hx
    · rw [if_neg hq] at hx; cases hx
theorem clip_off {B : Int} : ∀ {l : List S49} {p q : Int}, chain B p l = true → isIn l q = false → clip (q + 1) l = clip q l
  | [], _, _, _, _ => rfl
  | x :: l, p, q, hc, hi => by
    obtain ⟨h1, h2⟩ := chain_cons hc
    rw [isIn_cons, Bool.or_eq_false_iff] at hi
    have hx := hi.1
    unfold inE at hx
    rw [decide_eq_false_iff_not] at hx
    rw [clip, clip]
    by_cases hq : x.f0 < q
    · rw [if_pos hq, if_pos (by omega), if_pos (by omega), if_pos (by omega), clip_off h2 hi.2]
    · rw [if_neg hq, if_neg (by omega)]
theorem clip_on {B : Int} : ∀ {l : List S49} {p q : Int}, chain B p l = true → isIn l q = true → clip (q + 1) l = stepM q (clip q l)
  | [], _, _, _, h => by cases h
  | x :: l, p, q, hc, hi => by
    obtain ⟨h1, h2⟩ := chain_cons hc
    rw [isIn_cons] at hi
    rw [clip, clip]
    by_cases hx : x.f0 ≤ q ∧ q < x.f0 + x.f1
    · have e1 := clip_none (q := q + 1) h2 (by omega)
      have e2 := clip_none (q := q) h2 (by omega)
      have f2 : (if x.f0 + x.f1 ≤ q + 1 then x.f1 else q + 1 - x.f0) = q + 1 - x.f0 := by split <;> omega
      rw [if_pos (by omega), e1, e2, f2]
      by_cases hq : x.f0 < q
      · have f1 : (if x.f0 + x.f1 ≤ q then x.f1 else q - x.f0) = q - x.f0 := if_neg (by omega)
        rw [if_pos hq, f1, stepM, if_pos rfl, if_pos (by show x.f0 + (q - x.f0) = q; omega)]
        congr 2
        show q + 1 - x.f0 = (q - x.f0) + 1
        omega
      · rw [if_neg hq, stepM]
        have : x.f0 = q := by omega
        rw [this]
        congr 2
        omega
    · rw [inE_f hx, Bool.false_or] at hi
      have hlt : x.f0 + x.f1 < q := by
        rcases Int.lt_or_le (x.f0 + x.f1) q with h | h
        · exact h
        · rw [isIn_low h2 h] at hi; cases hi
      rw [if_pos (by omega), if_pos (by omega), if_pos (by omega), if_pos (by omega), clip_on h2 hi, stepM]
      by_cases hn : clip q l = []
      · rw [if_pos hn, if_neg (by show ¬ (x.f0 + x.f1 = q); omega), hn, stepM]
      · rw [if_neg hn]
theorem stepM_put (a : Int) : ∀ (l : List S49) (h : l ≠ []), stepM a l = if (l.getD (l.length - 1) z49).f0 + (l.getD (l.length - 1) z49).f1 = a then l.set (l.length - 1) ⟨(l.getD (l.length - 1) z49).f0, (l.getD (l.length - 1) z49).f1 + 1⟩ else l ++ [⟨a, 1⟩]
  | [], h => absurd rfl h
  | [x], _ => rfl
  | x :: y :: l, _ => by
    rw [stepM, if_neg (by simp), stepM_put a (y :: l) (by simp)]
    have e : (x :: y :: l).length - 1 = ((y :: l).length - 1) + 1 := by simp
    rw [e, List.getD_cons_succ, List.set_cons_succ]
    split <;> rfl
theorem stepM_len (a : Int) : ∀ l : List S49, (stepM a l).length ≤ l.length + 1
  | [] => by simp [stepM]
  | x :: l => by
    rw [stepM]
    split
    · split <;> simp
    · have := stepM_len a l; simp only [List.length_cons]; omega
theorem merged_l (P : Int → Option Bool) (n : Nat) (hn : n ≤ 400) (c : List S49) (p : Int) (hc : chain n p c = true) (hP : ∀ i : Int, 0 ≤ i → i < n → P i = some (isIn c i)) (d : Nat) : ∀ (q : Nat), q + d = n → (clip q c).length ≤ q →
    Ev (fun k => impl_merged.l0 P k (clip q c) (n : Int) (q : Int)) (clip (n : Int) c) := by
  induction d with
  | zero =>
    intro q hq _
    have : q = n := by omega
    subst this
    exact Ev.step (fun k => by rw [impl_merged.l0, if_neg (by omega)]) (Ev.now _)
  | succ d ih =>
    intro q hq hl
    have hp := hP q (by omega) (by omega)
    cases hi : isIn c q with
    | false =>
      have e := clip_off hc hi
      rw [hi] at hp
      refine Ev.step (fun k => by rw [impl_merged.l0, if_pos (by omega), hp, Option.bind_some, if_neg (by decide), inc q (by omega)]) ?_
      have := ih (q + 1) (by omega) (by rw [show (((q + 1 : Nat) : Int)) = (q : Int) + 1 by omega, e]; omega)
      rw [show (((q + 1 : Nat) : Int)) = (q : Int) + 1 by omega, e] at this
      rw [show (((q + 1 : Nat) : Int)) = (q : Int) + 1 by omega]
      exact this
    | true =>
      have e := clip_on hc hi
      rw [hi] at hp
      have hll := stepM_len q (clip q c)
      have H := ih (q + 1) (by omega) (by rw [show (((q + 1 : Nat) : Int)) = (q : Int) + 1 by omega, e]; omega)
      rw [show (((q + 1 : Nat) : Int)) = (q : Int) + 1 by omega, e] at H
      have hm := clip_mem (q := q) hc
      generalize clip q c = o at *
      by_cases ho : o = []
      · subst ho
        have hw0 : wrap64 ((([] : List S49).length : Int) - 1) = -1 := by rw [List.length_nil]; unfold wrap64; omega
        exact Ev.step (fun k => by
          rw [impl_merged.l0, if_pos (by omega), hp, Option.bind_some, if_pos rfl, hw0, if_neg (by omega), if_pos (by simp), inc q (by omega), show (((q + 1 : Nat) : Int)) = (q : Int) + 1 by omega]
          rfl) H
      · have hlen : 0 < o.length := List.length_pos_iff.mpr ho
        have hw : wrap64 ((o.length : Int) - 1) = ((o.length - 1 : Nat) : Int) := by unfold wrap64; omega
        have hx := hm _ (gmem z49 (show o.length - 1 < o.length by omega))
        rw [stepM_put _ _ ho] at H
        refine Ev.step (fun k => ?_) H
        rw [impl_merged.l0, if_pos (by omega), hp, Option.bind_some, if_pos rfl, hw, if_pos (by omega), if_pos (by omega), if_pos (by omega), rd_extent, addw _ _ (by omega) (by omega), Int.toNat_natCast, addw _ 1 (by omega) (by omega), addw _ 1 (by omega) (by omega), if_pos (show o.length < 8796093022208 by omega)]
        split <;> rfl
theorem merged_chain (P : Int → Option Bool) (n : Nat) (hn : n ≤ 400) (c : List S49) (p : Int) (hp : -1 ≤ p) (hc : chain n p c = true) (hP : ∀ i : Int, 0 ≤ i → i < n → P i = some (isIn c i)) : Ev (fun k => impl_merged.f P k (n : Int)) c := by
  have e0 : clip ((0 : Nat) : Int) c = [] := clip_none hc (by omega)
  have h := merged_l P n hn c p hc hP n 0 (by omega) (by rw [e0]; exact Nat.le_refl 0)
  rw [e0, clip_all hc] at h
  exact h

theorem mark_extents_l (m : Nat) (hm : m < 2 ^ 44) (d : Nat) : ∀ (xs : List S49) (i : Nat), i + d = xs.length → xs.length < 2 ^ 40 → (∀ j, j < i → xs.getD j z49 = ⟨((m + 2 * j : Nat) : Int), ((m + 2 * j + 1 : Nat) : Int)⟩) →
    ∃ ys, Ev (fun k => laws_markExtentS.l0 k xs ((m + 2 * i : Nat) : Int) (i : Int)) (((m + 2 * xs.length : Nat) : Int), ys) ∧ ys.length = xs.length ∧ ∀ j, j < xs.length → ys.getD j z49 = ⟨((m + 2 * j : Nat) : Int), ((m + 2 * j + 1 : Nat) : Int)⟩ := by
  induction d with
  | zero =>
    intro xs i hi _ hxs
    refine ⟨xs, Ev.step (fun k => by rw [laws_markExtentS.l0, if_neg (by omega)]) (by rw [show i = xs.length by omega]; exact Ev.now _), rfl, fun j hj => hxs j (by omega)⟩
  | succ d ih =>
    intro xs i hi hl hxs
    obtain ⟨ys, hr, hn, hy⟩ := ih (xs.set i ⟨((m + 2 * i : Nat) : Int), ((m + 2 * i + 1 : Nat) : Int)⟩) (i + 1) (by rw [List.length_set]; omega) (by rw [List.length_set]; omega) (fun j hj => by
      rw [gset _ _ _ _ _ (by omega)]
      split
      · rename_i e; subst e; rfl
      · exact hxs j (by omega))
    rw [List.length_set] at hr hn hy
    have hw : wrap64 (((m + 2 * i : Nat) : Int) + 1) = ((m + 2 * i + 1 : Nat) : Int) := by unfold wrap64; omega
    have hw2 : wrap64 (((m + 2 * i + 1 : Nat) : Int) + 1) = ((m + 2 * (i + 1) : Nat) : Int) := by unfold wrap64; omega
    have st : ∀ k, laws_markExtentS.l0 (k + 1) xs ((m + 2 * i : Nat) : Int) (i : Int) = laws_markExtentS.l0 k (xs.set i ⟨((m + 2 * i : Nat) : Int), ((m + 2 * i + 1 : Nat) : Int)⟩) ((m + 2 * (i + 1) : Nat) : Int) ((i + 1 : Nat) : Int) := fun k => by
      rw [laws_markExtentS.l0]
      rw [if_pos (by omega), if_pos (by omega), Option.bind_some, hw, hw2, inc i (by omega), Int.toNat_natCast]
      simp only [rd_extent, List.set_set]
      rw [gset _ _ _ _ _ (by omega), if_pos rfl]
    exact ⟨ys, Ev.step st hr, hn, hy⟩
theorem held_extents_l (m : Nat) (hm : m < 2 ^ 44) (d : Nat) : ∀ (ys : List S49) (i : Nat), i + d = ys.length → ys.length < 2 ^ 40 → (∀ j, j < ys.length → ys.getD j z49 = ⟨((m + 2 * j : Nat) : Int), ((m + 2 * j + 1 : Nat) : Int)⟩) →
    Ev (fun k => laws_heldExtentS.l0 k ys ((m + 2 * i : Nat) : Int) (i : Int)) ((m + 2 * ys.length : Nat) : Int) := by
  induction d with
  | zero =>
    intro ys i hi _ _
    exact Ev.step (fun k => by rw [laws_heldExtentS.l0, if_neg (by omega)]) (by rw [show i = ys.length by omega]; exact Ev.now _)
  | succ d ih =>
    intro ys i hi hl hy
    have hw : wrap64 (((m + 2 * i : Nat) : Int) + 1) = ((m + 2 * i + 1 : Nat) : Int) := by unfold wrap64; omega
    have hw2 : wrap64 (((m + 2 * i + 1 : Nat) : Int) + 1) = ((m + 2 * (i + 1) : Nat) : Int) := by unfold wrap64; omega
    refine Ev.step (fun k => by
      rw [laws_heldExtentS.l0]
      rw [if_pos (by omega), if_pos (by omega), rd_extent, hy i (by omega)]
      rw [if_pos rfl, hw, if_pos rfl, hw2, inc i (by omega)]) (ih ys (i + 1) (by omega) hl hy)
theorem marked_extents (m : Nat) (hm : m < 2 ^ 44) (xs : List S49) (hl : xs.length < 2 ^ 40) :
    ∃ ys, Ev (fun k => laws_markExtentS.f k xs (m : Int)) (((m + 2 * xs.length : Nat) : Int), ys) ∧ ys.length = xs.length ∧ Ev (fun k => laws_heldExtentS.f k ys (m : Int)) ((m + 2 * xs.length : Nat) : Int) := by
  obtain ⟨ys, h1, h2, h3⟩ := mark_extents_l m hm xs.length xs 0 (by omega) hl (fun j hj => by omega)
  have h4 := held_extents_l m hm ys.length ys 0 (by omega) (by omega) (fun j hj => h3 j (by omega))
  rw [Nat.mul_zero, Nat.add_zero] at h1 h4
  rw [h2] at h4
  exact ⟨ys, h1, h2, h4⟩
theorem marked_free (b : Int) (xs ys : List S49) (hx : xs.length < 2 ^ 40) (hy : ys.length < 2 ^ 40) :
    ∃ us vs, Ev (fun k => laws_markFree.f k b xs ys 1) (((1 + 2 * xs.length + 2 * ys.length : Nat) : Int), us, vs) ∧ us.length = xs.length ∧ vs.length = ys.length ∧ Ev (fun k => laws_heldExtentS.f k us 1) ((1 + 2 * xs.length : Nat) : Int) ∧ Ev (fun k => laws_heldExtentS.f k vs ((1 + 2 * xs.length : Nat) : Int)) ((1 + 2 * xs.length + 2 * ys.length : Nat) : Int) := by
  obtain ⟨us, a1, a2, a3⟩ := marked_extents 1 (by omega) xs hx
  obtain ⟨vs, b1, b2, b3⟩ := marked_extents (1 + 2 * xs.length) (by omega) ys hy
  exact ⟨us, vs, Ev.bind a1 (Ev.bind b1 (Ev.now _)), a2, b2, a3, b3⟩
theorem marked_extents1 (xs : List S49) (hl : xs.length < 2 ^ 40) :
    ∃ ys, Ev (fun k => laws_markExtentS.f k xs 1) (((1 + 2 * xs.length : Nat) : Int), ys) ∧ ys.length = xs.length ∧ Ev (fun k => laws_heldExtentS.f k ys 1) ((1 + 2 * xs.length : Nat) : Int) := marked_extents 1 (by omega) xs hl

theorem held_free (b : Int) (n m : Nat) (us vs : List S49) (h1 : Ev (fun k => laws_heldExtentS.f k us 1) (n : Int)) (h2 : Ev (fun k => laws_heldExtentS.f k vs (n : Int)) (m : Int)) : Ev (fun k => laws_heldFree.f k b us vs 1) (m : Int) :=
  Ev.bind h1 (evn (nn n) (Ev.bind h2 (evn (nn m) (Ev.now _))))

/-- x taken out of the extent that holds it -/
def midE (a n : Int) (x : S49) : List S49 := (if a > x.f0 then [⟨x.f0, a - x.f0⟩] else []) ++ (if a + n < x.f0 + x.f1 then [⟨a + n, x.f0 + x.f1 - (a + n)⟩] else [])
def cutE (a n : Int) : List S49 → List S49
  | [] => []
  | x :: l => if holdsE a n x = true then midE a n x ++ l else x :: cutE a n l
theorem holdsE_iff {a n : Int} {x : S49} : holdsE a n x = true ↔ x.f0 ≤ a ∧ a + n ≤ x.f0 + x.f1 := by unfold holdsE; rw [decide_eq_true_eq]
theorem midE_chain {B p a n : Int} {x : S49} {l : List S49} (hn : 1 ≤ n) (h : p < x.f0 ∧ 0 ≤ x.f0 ∧ 1 ≤ x.f1 ∧ x.f0 + x.f1 ≤ B) (hc : chain B (x.f0 + x.f1) l = true) (hh : x.f0 ≤ a ∧ a + n ≤ x.f0 + x.f1) : chain B p (midE a n x ++ l) = true := by
  unfold midE
  by_cases h1 : a > x.f0
  · rw [if_pos h1]
    by_cases h2 : a + n < x.f0 + x.f1
    · rw [if_pos h2]
      refine chain_mk (x := ⟨x.f0, a - x.f0⟩) ⟨h.1, h.2.1, by show 1 ≤ a - x.f0; omega, by show x.f0 + (a - x.f0) ≤ B; omega⟩ ?_
      refine chain_mk (x := ⟨a + n, x.f0 + x.f1 - (a + n)⟩) ⟨by show x.f0 + (a - x.f0) < a + n; omega, by show 0 ≤ a + n; omega, by show 1 ≤ x.f0 + x.f1 - (a + n); omega, by show a + n + (x.f0 + x.f1 - (a + n)) ≤ B; omega⟩ ?_
      exact chain_low (by show a + n + (x.f0 + x.f1 - (a + n)) ≤ x.f0 + x.f1; omega) hc
    · rw [if_neg h2]
      refine chain_mk (x := ⟨x.f0, a - x.f0⟩) ⟨h.1, h.2.1, by show 1 ≤ a - x.f0; omega, by show x.f0 + (a - x.f0) ≤ B; omega⟩ ?_
      exact chain_low (by show x.f0 + (a - x.f0) ≤ x.f0 + x.f1; omega) hc
  · rw [if_neg h1]
    by_cases h2 : a + n < x.f0 + x.f1
    · rw [if_pos h2]
      refine chain_mk (x := ⟨a + n, x.f0 + x.f1 - (a + n)⟩) ⟨by show p < a + n; omega, by show 0 ≤ a + n; omega, by show 1 ≤ x.f0 + x.f1 - (a + n); omega, by show a + n + (x.f0 + x.f1 - (a + n)) ≤ B; omega⟩ ?_
      exact chain_low (by show a + n + (x.f0 + x.f1 - (a + n)) ≤ x.f0 + x.f1; omega) hc
    · rw [if_neg h2]
      exact chain_low (by omega) hc
theorem cutE_chain {B a n : Int} (hn : 1 ≤ n) : ∀ {l : List S49} {p : Int}, chain B p l = true → chain B p (cutE a n l) = true
  | [], _, _ => rfl
  | x :: l, p, hc => by
    obtain ⟨h1, h2⟩ := chain_cons hc
    rw [cutE]
    by_cases hh : holdsE a n x = true
    · rw [if_pos hh]; exact midE_chain hn h1 h2 (holdsE_iff.mp hh)
    · rw [if_neg hh]; exact chain_mk h1 (cutE_chain hn h2)
theorem isIn_append (l m : List S49) (q : Int) : isIn (l ++ m) q = (isIn l q || isIn m q) := by unfold isIn; rw [List.any_append]
theorem midE_in {a n q : Int} {x : S49} (hn : 1 ≤ n) (hh : x.f0 ≤ a ∧ a + n ≤ x.f0 + x.f1) : isIn (midE a n x) q = (inE q x && !decide (a ≤ q ∧ q < a + n)) := by
  have e1 : isIn (if a > x.f0 then [(⟨x.f0, a - x.f0⟩ : S49)] else []) q = decide (x.f0 ≤ q ∧ q < a) := by
    split
    · show (inE q _ || false) = _
      rw [Bool.or_false]; unfold inE; rw [decide_eq_decide]; show x.f0 ≤ q ∧ q < x.f0 + (a - x.f0) ↔ _; omega
    · exact (decide_eq_false (by omega)).symm
  have e2 : isIn (if a + n < x.f0 + x.f1 then [(⟨a + n, x.f0 + x.f1 - (a + n)⟩ : S49)] else []) q = decide (a + n ≤ q ∧ q < x.f0 + x.f1) := by
    split
    · show (inE q _ || false) = _
      rw [Bool.or_false]; unfold inE; rw [decide_eq_decide]; show a + n ≤ q ∧ q < a + n + (x.f0 + x.f1 - (a + n)) ↔ _; omega
    · exact (decide_eq_false (by omega)).symm
  unfold midE
  rw [isIn_append, e1, e2]
  unfold inE
  rw [← Bool.decide_or, ← decide_not, ← Bool.decide_and, decide_eq_decide]
  omega
theorem cutE_in {B a n : Int} (hn : 1 ≤ n) (q : Int) : ∀ {l : List S49} {p : Int}, chain B p l = true → l.any (holdsE a n) = true → isIn (cutE a n l) q = (isIn l q && !decide (a ≤ q ∧ q < a + n))
  | [], _, _, h => by cases h
  | x :: l, p, hc, h => by
    obtain ⟨h1, h2⟩ := chain_cons hc
    rw [cutE, isIn_cons]
    by_cases hh : holdsE a n x = true
    · have hx := holdsE_iff.mp hh
      rw [if_pos hh, isIn_append, midE_in hn hx]
      by_cases hq : a ≤ q ∧ q < a + n
      · rw [decide_eq_true hq, isIn_low h2 (by omega)]; simp
      · rw [decide_eq_false hq]; simp
    · rw [if_neg hh, isIn_cons, cutE_in hn q h2 (by rw [List.any_cons] at h; simpa [hh] using h)]
      by_cases hq : a ≤ q ∧ q < a + n
      · rw [decide_eq_true hq]
        obtain ⟨y, hy, hyh⟩ := List.any_eq_true.mp (show l.any (holdsE a n) = true by rw [List.any_cons] at h; simpa [hh] using h)
        have hy2 := holdsE_iff.mp hyh
        have : inE q x = false := inE_f (by
          have := isIn_low (a := q) h2
          intro hxq
          have hiy : isIn l q = true := by unfold isIn; exact List.any_eq_true.mpr ⟨y, hy, inE_t (by omega)⟩
          rw [this (by omega)] at hiy
          cases hiy)
        rw [this]; simp
      · rw [decide_eq_false hq]; simp
theorem held_all {B a n : Int} (hn : 1 ≤ n) : ∀ {l : List S49} {p : Int}, chain B p l = true → (∀ q : Int, a ≤ q → q < a + n → isIn l q = true) → l.any (holdsE a n) = true
  | [], _, _, h => by have := h a (by omega) (by omega); cases this
  | x :: l, p, hc, h => by
    obtain ⟨h1, h2⟩ := chain_cons hc
    rw [List.any_cons]
    by_cases hx : x.f0 ≤ a ∧ a < x.f0 + x.f1
    · have : a + n ≤ x.f0 + x.f1 := by
        rcases Int.lt_or_le (x.f0 + x.f1) (a + n) with hlt | hle
        · have hq := h (x.f0 + x.f1) (by omega) hlt
          rw [isIn_cons, inE_f (by omega), isIn_low h2 (by omega)] at hq
          cases hq
        · exact hle
      rw [holdsE_iff.mpr ⟨hx.1, this⟩, Bool.true_or]
    · have ha := h a (by omega) (by omega)
      rw [isIn_cons, inE_f hx, Bool.false_or] at ha
      have hlt : x.f0 + x.f1 < a := by
        rcases Int.lt_or_le (x.f0 + x.f1) a with hlt | hle
        · exact hlt
        · rw [isIn_low h2 hle] at ha; cases ha
      rw [held_all hn h2 (fun q h3 h4 => by have := h q h3 h4; rw [isIn_cons, inE_f (by omega), Bool.false_or] at this; exact this), Bool.or_true]
theorem held_in {a n : Int} {l : List S49} (h : l.any (holdsE a n) = true) (q : Int) (h1 : a ≤ q) (h2 : q < a + n) : isIn l q = true := by
  obtain ⟨y, hy, hyh⟩ := List.any_eq_true.mp h
  have := holdsE_iff.mp hyh
  unfold isIn
  exact List.any_eq_true.mpr ⟨y, hy, inE_t (by omega)⟩

theorem chg_all (fr : Bool) (N : Nat) (hN : N ≤ 400) (a n : Int) (ha : 0 ≤ a) (hn : a + n ≤ N) (d : Nat) : ∀ (i : Nat) (f : Int → Bool), (i : Int) + d = n → (∀ q : Int, a + i ≤ q → q < a + n → f q = !fr) →
    Ev (fun k => impl_Free_changed.chg fr a n k (i : Int) (bm N f)) (some (bm N (fun q => if a + i ≤ q ∧ q < a + n then fr else f q))) := by
  induction d with
  | zero =>
    intro i f hi _
    have e : bm N (fun q => if a + i ≤ q ∧ q < a + n then fr else f q) = bm N f := bm_congr (fun q _ _ => if_neg (by omega))
    rw [e]
    exact Ev.step (fun k => by rw [impl_Free_changed.chg, if_neg (by omega)]) (Ev.now _)
  | succ d ih =>
    intro i f hi h
    have hj : (a + i).toNat < N := by omega
    have e0 : (((a + i).toNat : Nat) : Int) = a + i := by omega
    have H := ih (i + 1) (fun q => if q = (((a + i).toNat : Nat) : Int) then fr else f q) (by omega) (fun q h1 h2 => by rw [if_neg (by omega)]; exact h q (by omega) h2)
    have e : bm N (fun q => if a + ((i + 1 : Nat) : Int) ≤ q ∧ q < a + n then fr else (fun q => if q = (((a + i).toNat : Nat) : Int) then fr else f q) q) = bm N (fun q => if a + i ≤ q ∧ q < a + n then fr else f q) := bm_congr (fun q _ _ => by
      show (if a + ((i + 1 : Nat) : Int) ≤ q ∧ q < a + n then fr else if q = (((a + i).toNat : Nat) : Int) then fr else f q) = _
      rw [e0]
      by_cases h1 : q = a + i
      · rw [if_neg (by omega), if_pos h1, if_pos (by omega)]
      · rw [if_neg h1]
        by_cases h2 : a + ((i + 1 : Nat) : Int) ≤ q ∧ q < a + n
        · rw [if_pos h2, if_pos (by omega)]
        · rw [if_neg h2, if_neg (by omega)])
    rw [e] at H
    have hv : rdOf false (bm N f) (a + i) = !fr := by unfold rdOf; rw [bm_get _ _ _ hj, e0]; exact h _ (by omega) (by omega)
    exact Ev.step (fun k => by rw [impl_Free_changed.chg, if_pos (by omega), addw _ _ (by omega) (by omega), if_pos (by omega), if_pos (by rw [bm_len]; omega), hv, if_neg (by cases fr <;> decide), inc i (by omega), bm_set N f _ fr hj]) H
theorem chg_none (fr : Bool) (N : Nat) (hN : N ≤ 400) (a n : Int) (ha : 0 ≤ a) (hn : a + n ≤ N) (q : Int) (hq : q < a + n) (d : Nat) : ∀ (i : Nat) (f : Int → Bool), (i : Int) + d = n → a + i ≤ q → f q = fr →
    Ev (fun k => impl_Free_changed.chg fr a n k (i : Int) (bm N f)) none := by
  induction d with
  | zero => intro i f hi h1 _; omega
  | succ d ih =>
    intro i f hi h1 h2
    have hj : (a + i).toNat < N := by omega
    have e0 : (((a + i).toNat : Nat) : Int) = a + i := by omega
    have hv : rdOf false (bm N f) (a + i) = f (a + i) := by unfold rdOf; rw [bm_get _ _ _ hj, e0]
    by_cases h3 : f (a + i) = fr
    · exact Ev.step (fun k => by rw [impl_Free_changed.chg, if_pos (by omega), addw _ _ (by omega) (by omega), if_pos (by omega), if_pos (by rw [bm_len]; omega), hv, if_pos h3]) (Ev.now _)
    · have hne : q ≠ a + i := fun e => h3 (e ▸ h2)
      exact Ev.step (fun k => by rw [impl_Free_changed.chg, if_pos (by omega), addw _ _ (by omega) (by omega), if_pos (by omega), if_pos (by rw [bm_len]; omega), hv, if_neg h3, inc i (by omega), bm_set N f _ fr hj]) (ih (i + 1) (fun q => if q = (((a + i).toNat : Nat) : Int) then fr else f q) (by omega) (by omega) (by rw [if_neg (by omega)]; exact h2))

theorem idxW_split (a n : Int) : ∀ (l : List S49) (i : Int), l.any (holdsE a n) = true → ∃ (j : Nat) (h : j < l.length), idxW a n l i = i + j ∧ holdsE a n l[j] = true ∧ cutE a n l = l.take j ++ midE a n l[j] ++ l.drop (j + 1)
  | [], _, h => by cases h
  | x :: l, i, h => by
    by_cases hh : holdsE a n x = true
    · exact ⟨0, by simp, by rw [idxW, if_pos hh]; simp, hh, by rw [cutE, if_pos hh]; simp⟩
    · obtain ⟨j, hj, h1, h2, h3⟩ := idxW_split a n l (i + 1) (by rw [List.any_cons] at h; simpa [hh] using h)
      exact ⟨j + 1, by simp; omega, by rw [idxW, if_neg hh, h1]; omega, by simpa using h2, by rw [cutE, if_neg hh, h3]; simp⟩
theorem idxW_none (a n : Int) : ∀ (l : List S49) (i : Int), l.any (holdsE a n) = false → idxW a n l i = -1
  | [], _, _ => rfl
  | x :: l, i, h => by
    rw [List.any_cons, Bool.or_eq_false_iff] at h
    rw [idxW, if_neg (by rw [h.1]; decide), idxW_none a n l (i + 1) h.2]
theorem midE_len (a n : Int) (x : S49) : (midE a n x).length ≤ 2 := by unfold midE; split <;> split <;> simp
theorem l5cut (l : List S49) (a n : Int) (j : Nat) (hj : j < l.length) (hl : l.length ≤ 60) (hx : 0 ≤ l[j].f0 ∧ 1 ≤ l[j].f1 ∧ l[j].f0 + l[j].f1 ≤ 400) (ha : 0 ≤ a ∧ 1 ≤ n ∧ a + n ≤ 400) : spec_l5Cut.f l (j : Int) a n = some (l.take j ++ midE a n l[j] ++ l.drop (j + 1)) := by
  unfold spec_l5Cut.f midE
  have ht : (l.take j).length = j := by rw [List.length_take]; omega
  have hd : (l.drop (j + 1)).length = l.length - (j + 1) := List.length_drop
  rw [if_pos (by omega), if_pos (by omega), if_pos (by omega)]
  simp only [Option.bind_some, rd_extent, gat z49 hj, Int.toNat_natCast, List.nil_append, List.length_nil, addw a n (by omega) (by omega), addw l[j].f0 l[j].f1 (by omega) (by omega), inc j (by omega), subw (l[j].f0 + l[j].f1) (a + n) (by omega) (by omega), subw a l[j].f0 (by omega) (by omega), List.length_append, List.length_cons, ht, hd]
  rw [if_pos (by omega)]
  by_cases h1 : a > l[j].f0
  · rw [if_pos h1, if_pos (by omega), if_pos h1]
    by_cases h2 : a + n < l[j].f0 + l[j].f1
    · rw [if_pos h2, if_pos (by omega), if_pos (by omega), if_pos (by omega), if_pos (by omega), if_pos h2]; simp
    · rw [if_neg h2, if_pos (by omega), if_pos (by omega), if_pos (by omega), if_neg h2]; simp
  · rw [if_neg h1, if_neg h1]
    by_cases h2 : a + n < l[j].f0 + l[j].f1
    · rw [if_pos h2, if_pos (by omega), if_pos (by omega), if_pos (by omega), if_pos (by omega), if_pos h2]; simp
    · rw [if_neg h2, if_pos (by omega), if_pos (by omega), if_pos (by omega), if_neg h2]; simp

/-- where the first extent begins that is long enough; -1 if none is -/
def firstAt (n : Int) : List S49 → Int
  | [] => -1
  | x :: l => if x.f1 ≥ n then x.f0 else firstAt n l
theorem first0 (n b : Int) (l : List S49) (hl : l.length < 2 ^ 40) (d : Nat) : ∀ i : Nat, i + d = l.length → Ev (fun k => spec_l5Pick.l0 k n (-1) l (l.length : Int) (i : Int)) (firstAt n (l.drop i)) := by
  induction d with
  | zero => intro i hi; rw [List.drop_eq_nil_of_le (by omega), firstAt]; exact Ev.step (fun k => by rw [spec_l5Pick.l0, if_neg (by omega)]) (Ev.now _)
  | succ d ih =>
    intro i hi
    have hlt : i < l.length := by omega
    rw [List.drop_eq_getElem_cons hlt, firstAt]
    by_cases hc : l[i].f1 ≥ n
    · rw [if_pos hc]; exact Ev.step (fun k => by rw [spec_l5Pick.l0, if_pos (by omega), if_pos (by omega), if_pos (by omega), rd_extent, gat z49 hlt, if_pos hc]) (Ev.now _)
    · rw [if_neg hc]; exact Ev.step (fun k => by rw [spec_l5Pick.l0, if_pos (by omega), if_pos (by omega), if_pos (by omega), rd_extent, gat z49 hlt, if_neg hc, inc i (by omega)]) (ih (i + 1) (by omega))
theorem first1 (n b : Int) (l : List S49) (hl : l.length < 2 ^ 40) (d : Nat) : ∀ i : Nat, i + d = l.length → Ev (fun k => spec_l5Pick.l1 k n (-1) l (l.length : Int) (i : Int)) (firstAt n (l.drop i)) := by
  induction d with
  | zero => intro i hi; rw [List.drop_eq_nil_of_le (by omega), firstAt]; exact Ev.step (fun k => by rw [spec_l5Pick.l1, if_neg (by omega)]) (Ev.now _)
  | succ d ih =>
    intro i hi
    have hlt : i < l.length := by omega
    rw [List.drop_eq_getElem_cons hlt, firstAt]
    by_cases hc : l[i].f1 ≥ n
    · rw [if_pos hc]; exact Ev.step (fun k => by rw [spec_l5Pick.l1, if_pos (by omega), if_pos (by omega), if_pos (by omega), rd_extent, gat z49 hlt, if_pos hc]) (Ev.now _)
    · rw [if_neg hc]; exact Ev.step (fun k => by rw [spec_l5Pick.l1, if_pos (by omega), if_pos (by omega), if_pos (by omega), rd_extent, gat z49 hlt, if_neg hc, inc i (by omega)]) (ih (i + 1) (by omega))
theorem firstLong_split (n : Int) : ∀ (l : List S49) (i : Int), (firstLong (fun x => decide (x.f1 ≥ n)) l i = -1 ∧ firstAt n l = -1) ∨ ∃ (j : Nat) (h : j < l.length), firstLong (fun x => decide (x.f1 ≥ n)) l i = i + j ∧ firstAt n l = l[j].f0 ∧ l[j].f1 ≥ n
  | [], _ => Or.inl ⟨rfl, rfl⟩
  | x :: l, i => by
    by_cases hc : x.f1 ≥ n
    · exact Or.inr ⟨0, by simp, by rw [firstLong, if_pos (decide_eq_true hc)]; simp, by rw [firstAt, if_pos hc]; rfl, hc⟩
    · rcases firstLong_split n l (i + 1) with ⟨h1, h2⟩ | ⟨j, hj, h1, h2, h3⟩
      · exact Or.inl ⟨by rw [firstLong, if_neg (by rw [decide_eq_true_eq]; exact hc)]; exact h1, by rw [firstAt, if_neg hc]; exact h2⟩
      · exact Or.inr ⟨j + 1, by simp; omega, by rw [firstLong, if_neg (by rw [decide_eq_true_eq]; exact hc), h1]; omega, by rw [firstAt, if_neg hc, h2]; simp, by simpa using h3⟩
theorem pick_first (n : Int) (l : List S49) (h0 : ∀ x ∈ l, 0 ≤ x.f0) : impl_Free_placeFor.pick n l = some (if firstAt n l < 0 then (0, false) else (firstAt n l, true)) ∧ (0 ≤ firstAt n l → ∃ x ∈ l, firstAt n l = x.f0 ∧ x.f1 ≥ n) := by
  unfold impl_Free_placeFor.pick
  rcases firstLong_split n l 0 with ⟨h1, h2⟩ | ⟨j, hj, h1, h2, h3⟩
  · rw [h1, h2]; exact ⟨by rw [if_pos (by decide), if_pos (by decide)], fun h => absurd h (by decide)⟩
  · have := h0 _ (List.getElem_mem hj)
    rw [h1, h2, Int.zero_add]
    exact ⟨by rw [if_neg (by omega), if_pos (by omega), if_neg (by omega), rd_extent, gat z49 hj], fun _ => ⟨l[j], List.getElem_mem hj, rfl, h3⟩⟩
def gapI (a q : Int) : Int := if a < q then q - a else a - q
theorem gap_f (a q : Int) (h : -1000 ≤ a ∧ a ≤ 1000) (h' : -1000 ≤ q ∧ q ≤ 1000) : spec_l5Gap.f a q = some (gapI a q) := by
  unfold spec_l5Gap.f gapI
  split
  · rw [subw _ _ (by omega) (by omega)]
  · rw [subw _ _ (by omega) (by omega)]
theorem gap_i (a q : Int) (h : -1000 ≤ a ∧ a ≤ 1000) (h' : -1000 ≤ q ∧ q ≤ 1000) : impl_Free_placeFor.gap a q = gapI a q := by
  unfold impl_Free_placeFor.gap gapI mx
  rw [subw _ _ (by omega) (by omega), subw _ _ (by omega) (by omega)]
  split <;> split <;> omega
/-- the nearest place in an extent, and whether it is better -/
def clampI (q lo hi : Int) : Int := mn (mx q lo) hi
def betterI (q best c : Int) : Int := if best < 0 ∨ gapI c q < gapI best q then c else best
theorem clampI_in (q lo hi : Int) (h : lo ≤ hi) : lo ≤ clampI q lo hi ∧ clampI q lo hi ≤ hi := by
  unfold clampI mn mx
  split <;> split <;> omega
theorem better_step (q best a hi : Int) (h0 : 0 ≤ a) (h : a ≤ hi) : (if a + 1 ≤ hi then betterI q (betterI q best a) (clampI q (a + 1) hi) else betterI q best a) = betterI q best (clampI q a hi) := by
  by_cases h1 : a + 1 ≤ hi
  · rw [if_pos h1]
    have e1 : clampI q a hi = if q ≤ a then a else if q ≤ hi then q else hi := by unfold clampI mn mx; split <;> split <;> split <;> (try split) <;> omega
    have e2 : clampI q (a + 1) hi = if q ≤ a then a + 1 else if q ≤ hi then q else hi := by unfold clampI mn mx; split <;> split <;> split <;> (try split) <;> omega
    rw [e1, e2]
    unfold betterI gapI
    by_cases hq : q ≤ a
    · rw [if_pos hq, if_pos hq]
      repeat' split
      all_goals omega
    · rw [if_neg hq, if_neg hq]
      by_cases hq2 : q ≤ hi
      · rw [if_pos hq2]
        repeat' split
        all_goals omega
      · rw [if_neg hq2]
        repeat' split
        all_goals omega
  · rw [if_neg h1]
    have e1 : clampI q a hi = a := by unfold clampI mn mx; split <;> split <;> omega
    rw [e1]
def nearS (n q : Int) : List S49 → Int → Int
  | [], b => b
  | x :: l, b => nearS n q l (if x.f1 ≥ n then betterI q b (clampI q x.f0 (x.f0 + x.f1 - n)) else b)
theorem near_inner (p : List S49) (n q : Int) (i : Nat) (x0 x1 : Int) (r : Int) (hn : 1 ≤ n ∧ n ≤ 400) (hq : 0 ≤ q ∧ q ≤ 400) (hx : 0 ≤ x0 ∧ 1 ≤ x1 ∧ x0 + x1 ≤ 400) (hi : i < 2 ^ 40) (d : Nat) : ∀ (a best : Int), a + d = (if x0 + x1 - n + 1 ≤ a then a else x0 + x1 - n + 1) → 0 ≤ a → a ≤ 401 → -1 ≤ best → best ≤ 400 →
    Ev (fun k => spec_l5Pick.l2 k n q (if a ≤ x0 + x1 - n then betterI q best (clampI q a (x0 + x1 - n)) else best) p (p.length : Int) ((i + 1 : Nat) : Int)) r →
    Ev (fun k => spec_l5Pick.l3 k n q best a p (p.length : Int) (i : Int) x0 x1) r := by
  induction d with
  | zero =>
    intro a best hd h0 h4 hb hb2 hr
    have hle : ¬ (a ≤ x0 + x1 - n) := by split at hd <;> omega
    rw [if_neg hle] at hr
    exact Ev.step (fun k => by rw [spec_l5Pick.l3, addw a n (by omega) (by omega), addw x0 x1 (by omega) (by omega), if_neg (by omega), inc i (by omega)]) hr
  | succ d ih =>
    intro a best hd h0 h4 hb hb2 hr
    have hle : a ≤ x0 + x1 - n := by split at hd <;> omega
    rw [if_pos hle] at hr
    have hst := better_step q best a (x0 + x1 - n) h0 hle
    have hgo : Ev (fun k => spec_l5Pick.l3 k n q (betterI q best a) (a + 1) p (p.length : Int) (i : Int) x0 x1) r := by
      refine ih (a + 1) (betterI q best a) (by split at hd <;> split <;> omega) (by omega) (by omega) (by unfold betterI; split <;> omega) (by unfold betterI; split <;> omega) ?_
      rw [hst]
      exact hr
    by_cases h1 : best < 0
    · have e : betterI q best a = a := by unfold betterI; rw [if_pos (Or.inl h1)]
      rw [e] at hgo
      exact Ev.step (fun k => by rw [spec_l5Pick.l3, addw a n (by omega) (by omega), addw x0 x1 (by omega) (by omega), if_pos (by omega), if_pos h1, addw a 1 (by omega) (by omega)]) hgo
    · by_cases h2 : gapI a q < gapI best q
      · have e : betterI q best a = a := by unfold betterI; rw [if_pos (Or.inr h2)]
        rw [e] at hgo
        exact Ev.step (fun k => by rw [spec_l5Pick.l3, addw a n (by omega) (by omega), addw x0 x1 (by omega) (by omega), if_pos (by omega), if_neg h1, gap_f a q (by omega) (by omega), Option.bind_some, gap_f best q (by omega) (by omega), Option.bind_some, if_pos h2, addw a 1 (by omega) (by omega)]) hgo
      · have e : betterI q best a = best := by unfold betterI; rw [if_neg (by omega)]
        rw [e] at hgo
        exact Ev.step (fun k => by rw [spec_l5Pick.l3, addw a n (by omega) (by omega), addw x0 x1 (by omega) (by omega), if_pos (by omega), if_neg h1, gap_f a q (by omega) (by omega), Option.bind_some, gap_f best q (by omega) (by omega), Option.bind_some, if_neg h2, addw a 1 (by omega) (by omega)]) hgo
theorem near_outer (p : List S49) (n q : Int) (hl : p.length ≤ 60) (hn : 1 ≤ n ∧ n ≤ 400) (hq : 0 ≤ q ∧ q ≤ 400) (hx : ∀ x ∈ p, 0 ≤ x.f0 ∧ 1 ≤ x.f1 ∧ x.f0 + x.f1 ≤ 400) (d : Nat) : ∀ (i : Nat) (best : Int), i + d = p.length → -1 ≤ best → best ≤ 400 →
    Ev (fun k => spec_l5Pick.l2 k n q best p (p.length : Int) (i : Int)) (nearS n q (p.drop i) best) := by
  induction d with
  | zero => intro i best hi _ _; rw [List.drop_eq_nil_of_le (by omega), nearS]; exact Ev.step (fun k => by rw [spec_l5Pick.l2, if_neg (by omega)]) (Ev.now _)
  | succ d ih =>
    intro i best hi hb hb2
    have hlt : i < p.length := by omega
    have hxi := hx _ (List.getElem_mem hlt)
    rw [List.drop_eq_getElem_cons hlt, nearS]
    refine Ev.step (fun k => by rw [spec_l5Pick.l2, if_pos (by omega), if_pos (by omega), if_pos (by omega), rd_extent, gat z49 hlt]) (near_inner p n q i p[i].f0 p[i].f1 _ hn hq hxi (by omega) ((if p[i].f0 + p[i].f1 - n + 1 ≤ p[i].f0 then p[i].f0 else p[i].f0 + p[i].f1 - n + 1) - p[i].f0).toNat p[i].f0 best (by split <;> omega) hxi.1 (by omega) hb hb2 ?_)
    have e : (if p[i].f0 ≤ p[i].f0 + p[i].f1 - n then betterI q best (clampI q p[i].f0 (p[i].f0 + p[i].f1 - n)) else best) = (if p[i].f1 ≥ n then betterI q best (clampI q p[i].f0 (p[i].f0 + p[i].f1 - n)) else best) := by
      by_cases hc : p[i].f1 ≥ n
      · rw [if_pos hc, if_pos (by omega)]
      · rw [if_neg hc, if_neg (by omega)]
    rw [e]
    refine ih (i + 1) _ (by omega) ?_ ?_
    · split
      · have := clampI_in q p[i].f0 (p[i].f0 + p[i].f1 - n) (by omega)
        unfold betterI; split <;> omega
      · exact hb
    · split
      · have := clampI_in q p[i].f0 (p[i].f0 + p[i].f1 - n) (by omega)
        unfold betterI; split <;> omega
      · exact hb2
theorem near_tells (n q : Int) (hn : 1 ≤ n ∧ n ≤ 400) (hq : 0 ≤ q ∧ q ≤ 400) : ∀ (l : List S49) (b : Int) (f : Bool), (∀ x ∈ l, 0 ≤ x.f0 ∧ 1 ≤ x.f1 ∧ x.f0 + x.f1 ≤ 400) → (f = true → 0 ≤ b) → -1 ≤ b → b ≤ 400 →
    impl_Free_placeFor.near n q l b f = (if nearS n q l (if f = true then b else -1) < 0 then (b, false) else (nearS n q l (if f = true then b else -1), true)) ∧
    (0 ≤ nearS n q l (if f = true then b else -1) → (f = true ∧ nearS n q l (if f = true then b else -1) = b) ∨ ∃ x ∈ l, x.f0 ≤ nearS n q l (if f = true then b else -1) ∧ nearS n q l (if f = true then b else -1) + n ≤ x.f0 + x.f1)
  | [], b, f, _, hf, hb, _ => by
    rw [impl_Free_placeFor.near, nearS]
    cases f with
    | true => have := hf rfl; rw [if_pos rfl, if_neg (by omega)]; exact ⟨rfl, fun _ => Or.inl ⟨rfl, rfl⟩⟩
    | false => exact ⟨by simp, fun h => absurd h (by simp)⟩
  | x :: l, b, f, hx, hf, hb, hb2 => by
    have hxx := hx x List.mem_cons_self
    have hxl := fun y hy => hx y (List.mem_cons_of_mem _ hy)
    have up : ∀ r : Int, (∃ y ∈ l, y.f0 ≤ r ∧ r + n ≤ y.f0 + y.f1) → ∃ y ∈ x :: l, y.f0 ≤ r ∧ r + n ≤ y.f0 + y.f1 := fun r ⟨y, hy, h⟩ => ⟨y, List.mem_cons_of_mem _ hy, h⟩
    rw [impl_Free_placeFor.near, nearS]
    by_cases hc : x.f1 ≥ n
    · rw [if_pos hc, if_pos hc]
      have eat : impl_Free_placeFor.at_ n q x = clampI q x.f0 (x.f0 + x.f1 - n) := by
        unfold impl_Free_placeFor.at_ clampI
        rw [addw x.f0 x.f1 (by omega) (by omega), subw _ n (by omega) (by omega)]
      have hcl := clampI_in q x.f0 (x.f0 + x.f1 - n) (by omega)
      rw [eat]
      generalize clampI q x.f0 (x.f0 + x.f1 - n) = c at hcl ⊢
      have ht := near_tells n q hn hq l c true hxl (fun _ => by omega) (by omega) (by omega)
      rw [if_pos rfl] at ht
      have take : (impl_Free_placeFor.near n q l c true = (if nearS n q l c < 0 then (b, false) else (nearS n q l c, true))) ∧ (0 ≤ nearS n q l c → (f = true ∧ nearS n q l c = b) ∨ ∃ y ∈ x :: l, y.f0 ≤ nearS n q l c ∧ nearS n q l c + n ≤ y.f0 + y.f1) := by
        by_cases hneg : nearS n q l c < 0
        · exfalso
          have hge : ∀ (m : List S49) (b' : Int), (∀ y ∈ m, 0 ≤ y.f0 ∧ 1 ≤ y.f1 ∧ y.f0 + y.f1 ≤ 400) → 0 ≤ b' → 0 ≤ nearS n q m b' := by
            intro m
            induction m with
            | nil => intro b' _ h; exact h
            | cons y m ihm =>
              intro b' hy h
              rw [nearS]
              refine ihm _ (fun z hz => hy z (List.mem_cons_of_mem _ hz)) ?_
              have := hy y List.mem_cons_self
              split
              · have := clampI_in q y.f0 (y.f0 + y.f1 - n) (by omega)
                unfold betterI; split <;> omega
              · exact h
          have := hge l c hxl (by omega)
          omega
        · refine ⟨?_, fun h => ?_⟩
          · rw [ht.1, if_neg hneg, if_neg hneg]
          · rcases ht.2 h with ⟨_, h2⟩ | h2
            · exact Or.inr ⟨x, List.mem_cons_self, by omega, by omega⟩
            · exact Or.inr (up _ h2)
      cases f with
      | false =>
        rw [if_pos rfl, if_neg (show ¬ (false = true) by decide)]
        have e : betterI q (-1) c = c := by unfold betterI; rw [if_pos (Or.inl (by decide))]
        rw [e]
        exact take
      | true =>
        have hb0 := hf rfl
        rw [if_neg (show ¬ (true = false) by decide), if_pos rfl, gap_i c q (by omega) (by omega), gap_i b q (by omega) (by omega)]
        by_cases hg : gapI c q < gapI b q
        · have e : betterI q b c = c := by unfold betterI; rw [if_pos (Or.inr hg)]
          rw [if_pos hg, e]
          exact take
        · have e : betterI q b c = b := by unfold betterI; rw [if_neg (by omega)]
          rw [if_neg hg, e]
          have hk := near_tells n q hn hq l b true hxl hf hb hb2
          rw [if_pos rfl] at hk
          exact ⟨hk.1, fun h => (hk.2 h).imp id (up _)⟩
    · rw [if_neg hc, if_neg hc]
      have hk := near_tells n q hn hq l b f hxl hf hb hb2
      exact ⟨hk.1, fun h => (hk.2 h).imp id (up _)⟩
theorem pick_all (B : Int) (p : List S49) (n how q : Int) (g1 : chain B (-1) p = true) (g2 : 1 ≤ B ∧ B ≤ 400) (g3 : p.length ≤ 60) (hn : 1 ≤ n ∧ n ≤ B) (hh : 1 ≤ how ∧ how ≤ 4) (hq : 0 ≤ q ∧ q ≤ B - 1) :
    ∃ r : Int, Ev (fun k => spec_l5Pick.f k B p (sortE p) n how q) r ∧ impl_Free_placeFor.f B p (sortE p) n how q = some (if r < 0 then (0, false) else (r, true)) ∧ (0 ≤ r → p.any (holdsE r n) = true) := by
  have hx : ∀ x ∈ p, 0 ≤ x.f0 ∧ 1 ≤ x.f1 ∧ x.f0 + x.f1 ≤ B := fun x hxx => chain_mem g1 x hxx
  have hs : ∀ x ∈ sortE p, x ∈ p := fun x h => (sortE_perm p).mem_iff.mp h
  have hsl : (sortE p).length = p.length := (sortE_perm p).length_eq
  have any : ∀ x ∈ p, ∀ r : Int, x.f0 ≤ r → r + n ≤ x.f0 + x.f1 → p.any (holdsE r n) = true := fun x h r h1 h2 => List.any_eq_true.mpr ⟨x, h, by unfold holdsE; exact decide_eq_true ⟨h1, h2⟩⟩
  unfold spec_l5Pick.f impl_Free_placeFor.f impl_Free_placeFor.list
  by_cases h1 : how = 1
  · refine ⟨firstAt n p, evp h1 (by have := first0 n 0 p (by omega) p.length 0 (by omega); rwa [List.drop_zero] at this), ?_, ?_⟩
    · rw [if_neg (by omega), if_neg (by omega), if_neg (by omega)]; exact (pick_first n p (fun x h => (hx x h).1)).1
    · intro h; obtain ⟨x, hxm, e, h2⟩ := (pick_first n p (fun x h => (hx x h).1)).2 h; exact any x hxm _ (by omega) (by omega)
  by_cases h2 : how = 2
  · have hpf := pick_first n (sortE p) (fun x h => (hx x (hs x h)).1)
    refine ⟨firstAt n (sortE p), evn h1 (evp h2 (by have := first1 n 0 (sortE p) (by omega) (sortE p).length 0 (by omega); rwa [List.drop_zero] at this)), ?_, ?_⟩
    · rw [if_neg (by omega), if_neg (by omega), if_pos h2]; exact hpf.1
    · intro h; obtain ⟨x, hxm, e, h2⟩ := hpf.2 h; exact any x (hs x hxm) _ (by omega) (by omega)
  by_cases h3 : how = 3
  · generalize sortE p = s at hs hsl ⊢
    rcases Nat.eq_zero_or_pos s.length with h0 | h0
    · obtain rfl := List.eq_nil_of_length_eq_zero h0
      refine ⟨-1, evn h1 (evn h2 (evp h3 (evn (by simp) (Ev.now _)))), ?_, fun h => absurd h (by decide)⟩
      rw [if_neg (by omega), if_pos h3]; simp [impl_Free_placeFor.pick, firstLong]
    · have hm : wrap64 ((s.length : Int) - 1) = ((s.length - 1 : Nat) : Int) := by unfold wrap64; omega
      have hlt : s.length - 1 < s.length := by omega
      have hd : s.drop (mx 0 (wrap64 ((s.length : Int) - 1))).toNat = [s[s.length - 1]] := by
        have e : (mx 0 (wrap64 ((s.length : Int) - 1))).toNat = s.length - 1 := by rw [hm]; unfold mx; split <;> omega
        rw [e, List.drop_eq_getElem_cons hlt, List.drop_eq_nil_of_le (by omega)]
      have hpf := pick_first n [s[s.length - 1]] (fun x h => (hx x (hs x (by rw [List.mem_singleton.mp h]; exact List.getElem_mem hlt))).1)
      refine ⟨firstAt n [s[s.length - 1]], evn h1 (evn h2 (evp h3 (evp (by omega) ?_))), ?_, ?_⟩
      · rw [hm]
        refine evp (by omega) (evp (by omega) ?_)
        rw [rd_extent, gat z49 hlt, firstAt]
        by_cases hc : s[s.length - 1].f1 ≥ n
        · rw [if_pos hc, if_pos hc]; exact Ev.now _
        · rw [if_neg hc, if_neg hc, firstAt]; exact Ev.now _
      · rw [if_neg (by omega), if_pos h3, hd]; exact hpf.1
      · intro h; obtain ⟨x, hxm, e, h2⟩ := hpf.2 h; exact any x (hs x (by rw [List.mem_singleton.mp hxm]; exact List.getElem_mem hlt)) _ (by omega) (by omega)
  · have h4 : how = 4 := by omega
    have hx4 : ∀ x ∈ p, 0 ≤ x.f0 ∧ 1 ≤ x.f1 ∧ x.f0 + x.f1 ≤ 400 := fun x h => by have := hx x h; omega
    have ho := near_outer p n q g3 (by omega) (by omega) hx4 p.length 0 (-1) (by omega) (by omega) (by omega)
    rw [List.drop_zero] at ho
    have ht := near_tells n q (by omega) (by omega) p 0 false hx4 (fun h => by cases h) (by omega) (by omega)
    rw [if_neg (show ¬ (false = true) by decide)] at ht
    refine ⟨nearS n q p (-1), evn h1 (evn h2 (evn h3 ho)), ?_, fun h => ?_⟩
    · rw [if_pos h4, ht.1]
    · rcases ht.2 h with ⟨h5, _⟩ | ⟨x, hxm, h5, h6⟩
      · cases h5
      · exact any x hxm _ h5 h6

theorem cutE_len (a n : Int) : ∀ l : List S49, (cutE a n l).length ≤ l.length + 1
  | [] => by simp [cutE]
  | x :: l => by
    have := cutE_len a n l
    have := midE_len a n x
    rw [cutE]
    split <;> simp only [List.length_append, List.length_cons] <;> omega
theorem fits_chain {B q : Int} {l : List S49} (hB : B ≤ 400) (h : chain B q l = true) : fits l := fun x hx => by have := chain_mem h x hx; omega
theorem sortE_len (l : List S49) : (sortE l).length = l.length := (sortE_perm l).length_eq
theorem both_TakeRoom (B : Int) (p s : List S49) (n how q : Int) (hB : -9223372036854775808 ≤ B ∧ B < 9223372036854775808) (hl : p.length < 2 ^ 30) (hw : fits p) :
    ∃ (b : Int) (x y : List S49) (at_ : Int) (ok : Bool), x.length < 2 ^ 40 ∧ y.length < 2 ^ 40 ∧ Ev (fun k => spec_TakeRoom.f k B p s n how q) (b, x, y, at_, ok) ∧ Ev (fun k => impl_TakeRoom.f k B p s n how q) (b, x, y, at_, ok) := by
  have h1 := spec_goodF B p s hB hl hw
  have h2 := impl_goodF B p s hl hw
  unfold spec_TakeRoom.f impl_TakeRoom.f
  have sj : Ev (fun k => spec_TakeRoom.j0 k n how q true B p s) (0, ([] : List S49), ([] : List S49), 0, false) := Ev.step (fun k => by rw [spec_TakeRoom.j0, if_pos rfl]) (Ev.now _)
  have ij : Ev (fun k => impl_TakeRoom.j0 k n how q true B p s) (0, ([] : List S49), ([] : List S49), 0, false) := Ev.step (fun k => by rw [impl_TakeRoom.j0, if_pos rfl]) (Ev.now _)
  cases hg : goodF B p s with
  | false =>
    rw [hg] at h1 h2
    exact ⟨0, [], [], 0, false, by simp, by simp, Ev.bind h1 (evn (by decide) sj), Ev.bind h2 (evn (by decide) ij)⟩
  | true =>
    rw [hg] at h1 h2
    obtain ⟨g1, g2, g3, rfl⟩ := goodF_chain hg
    have hx : ∀ x ∈ p, 0 ≤ x.f0 ∧ 1 ≤ x.f1 ∧ x.f0 + x.f1 ≤ B := fun x hxx => chain_mem g1 x hxx
    by_cases c1 : n ≥ 1 ∧ n ≤ B
    case neg => exact ⟨0, [], [], 0, false, by simp, by simp, Ev.bind h1 (evp rfl (ev_to_some (l1In_tells _ _ _) (evn (by rw [decide_eq_true_eq]; exact c1) sj))), Ev.bind h2 (evp rfl (ev_to_some (within_tells _ _ _) (evn (by rw [decide_eq_true_eq]; exact c1) ij)))⟩
    by_cases c2 : how ≥ 1 ∧ how ≤ 4
    case neg => exact ⟨0, [], [], 0, false, by simp, by simp, Ev.bind h1 (evp rfl (ev_to_some (l1In_tells _ _ _) (evp (decide_eq_true c1) (ev_to_some (l1In_tells _ _ _) (evn (by rw [decide_eq_true_eq]; exact c2) sj))))), Ev.bind h2 (evp rfl (ev_to_some (within_tells _ _ _) (evp (decide_eq_true c1) (ev_to_some (within_tells _ _ _) (evn (by rw [decide_eq_true_eq]; exact c2) ij)))))⟩
    rw [subw B 1 (by omega) (by omega)]
    by_cases c3 : q ≥ 0 ∧ q ≤ B - 1
    case neg =>
      refine ⟨0, [], [], 0, false, by simp, by simp, Ev.bind h1 (evp rfl (ev_to_some (l1In_tells _ _ _) (evp (decide_eq_true c1) (ev_to_some (l1In_tells _ _ _) (evp (decide_eq_true c2) (ev_to_some (l1In_tells _ _ _) ?_)))))), Ev.bind h2 (evp rfl (ev_to_some (within_tells _ _ _) (evp (decide_eq_true c1) (ev_to_some (within_tells _ _ _) (evp (decide_eq_true c2) (ev_to_some (within_tells _ _ _) ?_))))))⟩
      · rw [decide_eq_false c3]; exact sj
      · rw [decide_eq_false c3]; exact ij
    obtain ⟨a, ep, ei, hold⟩ := pick_all B p n how q g1 g2 g3 c1 c2 c3
    have S : ∀ r, Ev (fun k => spec_TakeRoom.j0 k n how q false B p (sortE p)) r → Ev (fun k => (spec_GoodFree.f k B p (sortE p)).bind fun t270 => if t270 = true then ((spec_l1In.f n 1 B).bind fun t271 => if t271 = true then ((spec_l1In.f how 1 4).bind fun t272 => if t272 = true then ((spec_l1In.f q 0 (B - 1)).bind fun t273 => spec_TakeRoom.j0 k n how q (!t273) B p (sortE p)) else spec_TakeRoom.j0 k n how q true B p (sortE p)) else spec_TakeRoom.j0 k n how q true B p (sortE p)) else spec_TakeRoom.j0 k n how q true B p (sortE p)) r := fun r hr => by
      refine Ev.bind h1 (evp rfl (ev_to_some (l1In_tells _ _ _) (evp (decide_eq_true c1) (ev_to_some (l1In_tells _ _ _) (evp (decide_eq_true c2) (ev_to_some (l1In_tells _ _ _) ?_))))))
      rw [decide_eq_true c3]; exact hr
    have I : ∀ r, Ev (fun k => impl_TakeRoom.j0 k n how q false B p (sortE p)) r → Ev (fun k => (impl_GoodFree.f k B p (sortE p)).bind fun t339 => if t339 = true then ((impl_within.f n 1 B).bind fun t340 => if t340 = true then ((impl_within.f how 1 4).bind fun t341 => if t341 = true then ((impl_within.f q 0 (B - 1)).bind fun t342 => impl_TakeRoom.j0 k n how q (!t342) B p (sortE p)) else impl_TakeRoom.j0 k n how q true B p (sortE p)) else impl_TakeRoom.j0 k n how q true B p (sortE p)) else impl_TakeRoom.j0 k n how q true B p (sortE p)) r := fun r hr => by
      refine Ev.bind h2 (evp rfl (ev_to_some (within_tells _ _ _) (evp (decide_eq_true c1) (ev_to_some (within_tells _ _ _) (evp (decide_eq_true c2) (ev_to_some (within_tells _ _ _) ?_))))))
      rw [decide_eq_true c3]; exact hr
    by_cases ha : a < 0
    · rw [if_pos ha] at ei
      refine ⟨0, [], [], 0, false, by simp, by simp, S _ (Ev.step (fun k => by rw [spec_TakeRoom.j0, if_neg (by decide)]) (Ev.bind ep (evp ha (Ev.now _)))), I _ (Ev.step (fun k => by rw [impl_TakeRoom.j0, if_neg (by decide)]) (ev_to_some ei ?_))⟩
      exact evn (by decide) (Ev.now _)
    rw [if_neg ha] at ei
    have hy := hold (by omega)
    have hn : ((B.toNat : Nat) : Int) = B := by omega
    have e2 := isfree B p (sortE p) (by omega) g3 hx
    obtain ⟨j, hj, j1, j2, j3⟩ := idxW_split a n p 0 hy
    have hxj := hx _ (List.getElem_mem hj)
    have hjj := holdsE_iff.mp j2
    have hc : 0 ≤ a ∧ 1 ≤ n ∧ a + n ≤ B := by omega
    have ew := within p a n g3 (fun x hxx => by have := hx x hxx; omega) (by omega)
    rw [j1, Int.zero_add] at ew
    have dn : (((n.toNat : Nat) : Int)) = n := by omega
    have ecut := l5cut p a n j hj g3 (by omega) (by omega)
    rw [← j3] at ecut
    have hcc := cutE_chain (a := a) hc.2.1 g1
    have hcl := cutE_len a n p
    have hcf := fits_chain (by omega) hcc
    have es := bysize (cutE a n p) (by omega)
    have k1 := spec_goodF B (cutE a n p) (sortE (cutE a n p)) hB (by omega) hcf
    have k2 := impl_goodF B (cutE a n p) (sortE (cutE a n p)) (by omega) hcf
    have ec := chg_all false B.toNat (by omega) a n hc.1 (by omega) n.toNat 0 (isIn p) (by omega) (fun q_ q1 q2 => held_in hy q_ (by omega) q2)
    have hcc2 := hcc
    rw [← hn] at hcc2
    have em := merged_chain (bitP (bm B.toNat (fun q_ => if a + ((0 : Nat) : Int) ≤ q_ ∧ q_ < a + n then false else isIn p q_))) B.toNat (by omega) _ (-1) (by omega) hcc2 (fun i h0 h3 => by
      unfold bitP
      rw [if_pos ⟨h0, by rw [bm_len]; exact h3⟩, cutE_in hc.2.1 i g1 hy]
      unfold rdOf
      rw [bm_get _ _ _ (by omega), Int.toNat_of_nonneg h0]
      congr 1
      by_cases hr : a ≤ i ∧ i < a + n
      · rw [if_pos (by omega), decide_eq_true hr]; simp
      · rw [if_neg (by omega), decide_eq_false hr]; simp)
    rw [hn] at em
    have ef : impl_freeOf.f B (cutE a n p) = some (sortE (cutE a n p)) := by unfold impl_freeOf.f; rw [if_pos (by omega)]
    have sOf : Ev (fun k => spec_l5Of.f k B (cutE a n p)) (B, cutE a n p, sortE (cutE a n p)) := by
      unfold spec_l5Of.f
      exact ev_some (evp (by simp; omega) (Ev.bind es (Ev.now _)))
    cases hgg : goodF B (cutE a n p) (sortE (cutE a n p)) with
    | false =>
      rw [hgg] at k1 k2
      refine ⟨0, [], [], 0, false, by simp, by simp, S _ (Ev.step (fun k => by rw [spec_TakeRoom.j0, if_neg (by decide)]) (Ev.bind ep (evn ha (Ev.bind ew (ev_to_some ecut (Ev.bind sOf (Ev.bind k1 ?_))))))), I _ (Ev.step (fun k => by rw [impl_TakeRoom.j0, if_neg (by decide)]) (ev_to_some ei (evp rfl ?_)))⟩
      · exact evn (by decide) (Ev.now _)
      · refine Ev.bind (a := (0, ([] : List S49), ([] : List S49), false)) ?_ (evn (by decide) (Ev.now _))
        unfold impl_Free_changed.f
        refine Ev.bind e2 (Ev.bind ec (Ev.bind em (ev_to_some ef (Ev.bind k2 ?_))))
        exact evn (by decide) (Ev.now _)
    | true =>
      rw [hgg] at k1 k2
      refine ⟨B, cutE a n p, sortE (cutE a n p), a, true, by omega, by rw [sortE_len]; omega, S _ (Ev.step (fun k => by rw [spec_TakeRoom.j0, if_neg (by decide)]) (Ev.bind ep (evn ha (Ev.bind ew (ev_to_some ecut (Ev.bind sOf (Ev.bind k1 (evp rfl (Ev.now _))))))))), I _ (Ev.step (fun k => by rw [impl_TakeRoom.j0, if_neg (by decide)]) (ev_to_some ei (evp rfl ?_)))⟩
      refine Ev.bind (a := (B, cutE a n p, sortE (cutE a n p), true)) ?_ (evp rfl (Ev.now _))
      unfold impl_Free_changed.f
      refine Ev.bind e2 (Ev.bind ec (Ev.bind em (ev_to_some ef (Ev.bind k2 (evp rfl (Ev.now _))))))
theorem FnExactTakeRoom : laws_FnExactTakeRoom.PureG := by
  intro b xs ys n how q hb hx hy _ _ _
  refine Ev.rounds ?_
  obtain ⟨r, h1, h2⟩ := sz_free b xs ys hx.1 hy.1 1048576 (by omega) (by omega)
  have hbb := bounds_i64 hb
  have hml := maxLen_lt
  unfold laws_FnExactTakeRoom.f
  refine ev_to_some h1 ?_
  by_cases hr : r < 0
  · exact evp hr (Ev.now _)
  · obtain ⟨hx0, hx1, hy1⟩ : xs.length < 2 ^ 30 ∧ xs.length < 2 ^ 40 ∧ ys.length < 2 ^ 40 := by omega
    have T := to_free b xs ys hx1 hy1
    have Q := eq_free b (xs.map convExtent) (ys.map convExtent) (convE_len xs hx1) (convE_len ys hy1)
    have hl : (xs.map convExtent).length < 2 ^ 30 := by rw [List.length_map]; omega
    obtain ⟨rb, x, y, ra, ok, hxl, hyl, e1, e2⟩ := both_TakeRoom b _ (ys.map convExtent) n how q (by omega) hl (fits_conv xs hx.2)
    have QX := eq_free rb x y hxl hyl
    obtain ⟨us, vs, m1, _, _, _, _⟩ := marked_free b (xs.map convExtent) (ys.map convExtent) (convE_len xs hx1) (convE_len ys hy1)
    obtain ⟨us2, vs2, m2, _, _, m4, m5⟩ := marked_free rb x y hxl hyl
    have H := held_free rb _ _ us2 vs2 m4 m5
    refine evn hr (Ev.bind T (Ev.bind e1 (Ev.bind T (Ev.bind e2 (Ev.bind QX (evp rfl (evp rfl ?_)))))))
    rw [bne_self_eq_false]
    refine Ev.step (fun k => by rw [laws_FnExactTakeRoom.j0, if_neg (by decide)]) (Ev.bind T (Ev.bind Q (evp rfl (Ev.bind m1 (evn (nn _) (Ev.bind QX (evp rfl (evp rfl ?_))))))))
    rw [bne_self_eq_false]
    refine Ev.step (fun k => by rw [laws_FnExactTakeRoom.j1, if_neg (by decide)]) (Ev.bind m2 (Ev.bind H (evn (nn _) (evp rfl (Ev.bind T (Ev.bind e2 (Ev.bind QX (evp rfl (evp rfl ?_)))))))))
    rw [bne_self_eq_false]
    exact Ev.step (fun k => by rw [laws_FnExactTakeRoom.j2, if_neg (by decide)]) (Ev.bind H (evn (nn _) (evp rfl (Ev.now _))))

end Go.Proofs.Ytfhfaeeokibhaaa.Pure
