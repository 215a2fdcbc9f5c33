/- The program's GiveRoom answers as the reference's at all free space and extents, and shares no memory; no condition. -/
import Derived.Test.YtfhfaeeokibhaaaQFnExactGiveRoomx12
import Derived.OpenShut
set_option linter.unusedVariables false
set_option linter.unusedSimpArgs false
namespace Go.Proofs.Ytfhfaeeokibhaaa.Pure
open Go.RowKit Go.Proofs.Ytfhfaeeokibhaaa.PFnExactGiveRoom Go.Proofs.YtfhfaeeokibhaaaW.PrintWords Go.Proofs.YtfhfaeeokibhaaaW.PrintLast Go.Proofs.YtfhfaeeokibhaaaW.PrintMore 

theorem wr64 (n : Nat) (h : n < 2 ^ 62) : wrap64 (n : Int) = (n : Int) := by unfold wrap64; omega
theorem wri (n : Int) (h : 0 ≤ n) (h1 : n < 2 ^ 62) : wrap64 n = n := by unfold wrap64; omega
theorem byte_of {x : Int} (h : (Lit.int .u8 x).wf = true) : ∃ n : Nat, n < 256 ∧ x = (n : Int) := by
  have := bounds_u8 h
  exact ⟨x.toNat, by omega, by omega⟩
theorem shr_nat (b j q : Nat) (hj : j ≤ 8) (hq : q = b / 2 ^ j) : shr .u8 (b : Int) (j : Int) = (q : Int) := by
  unfold shr
  rw [Int.toNat_natCast, Nat.min_eq_left (show j ≤ IntKind.bits .u8 from hj), hq]
  simp
theorem dbl (x : Nat) (hx : x < 256) : wrap64 ((x : Int) * 2) = ((2 * x : Nat) : Int) := by unfold wrap64; omega
theorem inc (j : Nat) (hj : j < 2 ^ 62) : wrap64 ((j : Int) + 1) = ((j + 1 : Nat) : Int) := by unfold wrap64; omega
theorem nn (n : Nat) : ¬ ((n : Int) < 0) := by omega

theorem within_tells (a b c : Int) : impl_within.f a b c = some (decide (a ≥ b ∧ a ≤ c)) := by
  unfold impl_within.f
  split
  · rename_i h; simp [h]
  · rename_i h; simp [h]
theorem l1In_tells (a b c : Int) : spec_l1In.f a b c = some (decide (a ≥ b ∧ a ≤ c)) := by
  unfold spec_l1In.f
  split
  · rename_i h; simp [h]
  · rename_i h; simp [h]

theorem ev_of {α : Type} {g : Nat → Option α} {r : α} (K : Nat) (h : ∀ k, K < k → g k = some r) : Ev g r := ⟨K + 1, fun k hk => h k (by omega)⟩
theorem evp {α : Type} {c : Prop} [Decidable c] {f g : Nat → Option α} {r : α} (h : c) (k : Ev f r) : Ev (fun n => if c then f n else g n) r := Ev.congr (fun _ => if_pos h) k
theorem evn {α : Type} {c : Prop} [Decidable c] {f g : Nat → Option α} {r : α} (h : ¬ c) (k : Ev g r) : Ev (fun n => if c then f n else g n) r := Ev.congr (fun _ => if_neg h) k
theorem ev_some {α β : Type} {a : α} {f : Nat → α → Option β} {r : β} (h : Ev (fun n => f n a) r) : Ev (fun n => (some a).bind (f n)) r := h
theorem ev_to_some {α β : Type} {o : Option α} {a : α} {f : Nat → α → Option β} {r : β} (ho : o = some a) (h : Ev (fun n => f n a) r) : Ev (fun n => o.bind (f n)) r := by subst ho; exact h
theorem maxLen_lt : maxLen < 2 ^ 63 := by decide

theorem gset {α : Type} (z : α) (xs : List α) (i j : Nat) (v : α) (hi : i < xs.length) : (xs.set i v).getD j z = if j = i then v else xs.getD j z := by
  simp only [List.getD_eq_getElem?_getD, List.getElem?_set]
  by_cases h : i = j
  · subst h; simp [hi]
  · rw [if_neg h, if_neg (fun e => h e.symm)]
theorem gext {α : Type} (z : α) {l m : List α} (hl : l.length = m.length) (h : ∀ j, j < l.length → l.getD j z = m.getD j z) : l = m := by
  apply List.ext_getElem hl
  intro j h1 h2
  have := h j h1
  simpa [List.getD_eq_getElem?_getD, h1, h2] using this
theorem rdOf_nat {α : Type} (z : α) (xs : List α) (i : Nat) : rdOf z xs (i : Int) = xs.getD i z := by unfold rdOf; rw [Int.toNat_natCast]
theorem gmem {α : Type} (z : α) {xs : List α} {i : Nat} (h : i < xs.length) : xs.getD i z ∈ xs := by
  rw [List.getD_eq_getElem?_getD]; simp [h]
/-- what a count of sizes leaves -/
def Left (B r : Int) : Prop := r < 0 ∨ 0 ≤ r ∧ r ≤ B

def convExtent (x : S47) : S49 := ⟨x.f0, x.f1⟩
theorem rd_extent (xs : List S49) (i : Nat) : rd_T49 xs (i : Int) = xs.getD i z49 := by unfold rd_T49; rw [Int.toNat_natCast]
theorem rd0_extent (xs : List S47) (i : Nat) : rd_T47 xs (i : Int) = xs.getD i z47 := by unfold rd_T47; rw [Int.toNat_natCast]
theorem to_extents_l (xs : List S47) (hl : xs.length < 2 ^ 40) (d : Nat) : ∀ (ys : List S49) (i : Nat), i + d = xs.length → ys.length = xs.length → (∀ j, j < i → ys.getD j z49 = (xs.map convExtent).getD j z49) →
    Ev (fun k => laws_toExtentS.l0 k xs ys (i : Int)) (xs.map convExtent) := by
  induction d with
  | zero =>
    intro ys i hi hy he
    refine Ev.step (fun k => by simp only [laws_toExtentS.l0]; rw [if_neg (by omega)]) ?_
    rw [gext z49 (l := ys) (m := xs.map convExtent) (by rw [List.length_map]; exact hy) (fun j hj => he j (by omega))]
    exact Ev.now _
  | succ d ih =>
    intro ys i hi hy he
    refine Ev.step (fun k => by
      simp only [laws_toExtentS.l0, laws_toExtent.f, Option.bind_some]
      rw [if_pos (by omega), if_pos (by omega), if_pos (by omega), rd0_extent, Int.toNat_natCast, inc i (by omega)]) ?_
    refine ih _ (i + 1) (by omega) (by rw [List.length_set]; exact hy) (fun j hj => ?_)
    rw [gset _ _ _ _ _ (by omega)]
    split
    · rename_i e; subst e
      simp only [List.getD_eq_getElem?_getD, List.getElem?_map, List.getElem?_eq_getElem (show j < xs.length by omega), Option.map_some, Option.getD_some, convExtent]
    · exact he j (by omega)
theorem to_extents (xs : List S47) (hl : xs.length < 2 ^ 40) : Ev (fun k => laws_toExtentS.f k xs) (xs.map convExtent) := by
  unfold laws_toExtentS.f
  exact evp (by omega) (evp (by omega) (to_extents_l xs hl xs.length _ 0 (by omega) (by simp) (fun j hj => by omega)))
theorem eq_extents_l (xs : List S49) (hl : xs.length < 2 ^ 40) (d : Nat) : ∀ (i : Nat), i + d = xs.length → Ev (fun k => laws_eqExtentS.l0 k xs xs (i : Int)) true := by
  induction d with
  | zero => intro i hi; exact Ev.step (fun k => by simp only [laws_eqExtentS.l0]; rw [if_neg (by omega)]) (Ev.now _)
  | succ d ih =>
    intro i hi
    exact Ev.step (fun k => by
      simp only [laws_eqExtentS.l0, laws_eqExtent.f, if_true, Option.bind_some]
      rw [if_pos (by omega), if_pos (by omega), if_pos (by omega), inc i (by omega)]) (ih (i + 1) (by omega))
theorem eq_extents (xs : List S49) (hl : xs.length < 2 ^ 40) : Ev (fun k => laws_eqExtentS.f k xs xs) true := by
  unfold laws_eqExtentS.f
  exact evp rfl (eq_extents_l xs hl xs.length 0 (by omega))

theorem sz_extents (xs : List S47) (hl : xs.length ≤ maxLen) (B : Int) (h0 : 0 ≤ B) (hB : B < 2 ^ 40) :
    ∃ r, laws_szExtentS.f xs B = some r ∧ (r < 0 ∨ 0 ≤ r ∧ r ≤ B ∧ (xs.length : Int) ≤ B) := by
  have hml := maxLen_lt
  unfold laws_szExtentS.f
  rw [show wrap64 (B - (xs.length : Int)) = B - (xs.length : Int) by unfold wrap64; omega]
  by_cases hneg : B - (xs.length : Int) < 0
  · exact ⟨-1, if_pos hneg, Or.inl (by omega)⟩
  · exact ⟨_, if_neg hneg, Or.inr (by omega)⟩
theorem sz_free (b : Int) (xs ys : List S47) (hx : xs.length ≤ maxLen) (hy : ys.length ≤ maxLen) (B : Int) (h0 : 0 ≤ B) (hB : B < 2 ^ 40) :
    ∃ r, laws_szFree.f b xs ys B = some r ∧ (r < 0 ∨ (xs.length : Int) ≤ B ∧ (ys.length : Int) ≤ B) := by
  obtain ⟨r, h1, h2⟩ := sz_extents xs hx B h0 hB
  unfold laws_szFree.f
  rw [h1, Option.bind_some]
  by_cases hr : r < 0
  · exact ⟨-1, if_pos hr, Or.inl (by omega)⟩
  · obtain ⟨r2, h3, h4⟩ := sz_extents ys hy r (by omega) (by omega)
    rw [if_neg hr, h3, Option.bind_some]
    by_cases hr2 : r2 < 0
    · exact ⟨-1, if_pos hr2, Or.inl (by omega)⟩
    · exact ⟨r2, if_neg hr2, Or.inr (by omega)⟩
theorem to_free (b : Int) (xs ys : List S47) (hx : xs.length < 2 ^ 40) (hy : ys.length < 2 ^ 40) : Ev (fun k => laws_toFree.f k b xs ys) (b, xs.map convExtent, ys.map convExtent) :=
  Ev.bind (to_extents xs hx) (Ev.bind (to_extents ys hy) (Ev.now _))
theorem eq_free (b : Int) (xs ys : List S49) (hx : xs.length < 2 ^ 40) (hy : ys.length < 2 ^ 40) : Ev (fun k => laws_eqFree.f k b xs ys b xs ys) true :=
  evp rfl (Ev.bind (eq_extents xs hx) (evp rfl (Ev.bind (eq_extents ys hy) (evp rfl (Ev.now _)))))
theorem convE_len (ws : List S47) (hw : ws.length < 2 ^ 40) : (ws.map convExtent).length < 2 ^ 40 := by rw [List.length_map]; exact hw
/-- extents that rise, with room between, within B blocks, behind p -/
def chain (B : Int) : Int → List S49 → Bool
  | _, [] => true
  | p, x :: l => decide (p < x.f0 ∧ 0 ≤ x.f0 ∧ 1 ≤ x.f1 ∧ x.f0 + x.f1 ≤ B) && chain B (x.f0 + x.f1) l
def okB (B : Int) (l : List S49) : Bool := decide (1 ≤ B ∧ B ≤ 400) && decide (l.length ≤ 60)
theorem leE_trans (a b c : S49) (h1 : leE a b = true) (h2 : leE b c = true) : leE a c = true := by
  unfold leE at *
  rw [decide_eq_true_eq] at *
  omega
theorem leE_total (a b : S49) : (leE a b || leE b a) = true := by
  unfold leE
  rw [Bool.or_eq_true, decide_eq_true_eq, decide_eq_true_eq]
  omega
theorem leE_anti (a b : S49) (h1 : leE a b = true) (h2 : leE b a = true) : a = b := by
  unfold leE at *
  rw [decide_eq_true_eq] at *
  obtain ⟨a0, a1⟩ := a
  obtain ⟨b0, b1⟩ := b
  simp only at h1 h2
  have : a0 = b0 ∧ a1 = b1 := by omega
  rw [this.1, this.2]
theorem sortE_perm (l : List S49) : List.Perm (sortE l) l := by rw [sortE_eq]; exact List.mergeSort_perm l leE
theorem sortE_pair (l : List S49) : List.Pairwise (fun a b => leE a b = true) (sortE l) := by rw [sortE_eq]; exact List.pairwise_mergeSort leE_trans leE_total l
theorem sortE_uniq (l m : List S49) (hp : List.Perm m l) (hs : List.Pairwise (fun a b => leE a b = true) m) : m = sortE l :=
  List.Perm.eq_of_pairwise (fun a b _ _ h1 h2 => leE_anti a b h1 h2) hs (sortE_pair l) (hp.trans (sortE_perm l).symm)
theorem gat {α : Type} (z : α) {l : List α} {i : Nat} (h : i < l.length) : l.getD i z = l[i] := by rw [List.getD_eq_getElem?_getD, List.getElem?_eq_getElem h]; rfl
/-- put into a row by size -/
def insE (x : S49) : List S49 → List S49
  | [] => [x]
  | y :: l => if leE x y = true then x :: y :: l else y :: insE x l
theorem insE_perm (x : S49) : ∀ l : List S49, List.Perm (insE x l) (x :: l)
  | [] => List.Perm.refl _
  | y :: l => by
    rw [insE]
    split
    · exact List.Perm.refl _
    · exact ((insE_perm x l).cons y).trans (List.Perm.swap x y l)
theorem insE_pair (x : S49) : ∀ l : List S49, List.Pairwise (fun a b => leE a b = true) l → List.Pairwise (fun a b => leE a b = true) (insE x l)
  | [], _ => by rw [insE]; simp
  | y :: l, h => by
    rw [insE]
    split
    · rename_i hx
      refine List.Pairwise.cons (fun z hz => ?_) h
      rcases List.mem_cons.mp hz with rfl | hz
      · exact hx
      · exact leE_trans _ _ _ hx (List.rel_of_pairwise_cons h hz)
    · rename_i hx
      have hyx : leE y x = true := by
        have := leE_total x y
        rw [Bool.or_eq_true] at this
        exact this.resolve_left hx
      refine List.Pairwise.cons (fun z hz => ?_) (insE_pair x l (List.Pairwise.of_cons h))
      rcases List.mem_cons.mp ((insE_perm x l).mem_iff.mp hz) with rfl | hz
      · exact hyx
      · exact List.rel_of_pairwise_cons h hz
/-- how many come ahead -/
def cnt (x : S49) : List S49 → Nat
  | [] => 0
  | y :: l => if leE x y = true then 0 else cnt x l + 1
theorem insE_cnt (x : S49) : ∀ l : List S49, insE x l = l.take (cnt x l) ++ x :: l.drop (cnt x l)
  | [] => rfl
  | y :: l => by
    rw [insE, cnt]
    split
    · rfl
    · rw [insE_cnt x l]; rfl
theorem cnt_le (x : S49) : ∀ l : List S49, cnt x l ≤ l.length
  | [] => Nat.le_refl _
  | y :: l => by
    have := cnt_le x l
    rw [cnt]
    split
    · omega
    · simp only [List.length_cons]; omega
theorem cnt_before (x : S49) : ∀ (l : List S49) (i : Nat) (h : i < l.length), i < cnt x l → leE x l[i] = false
  | [], i, h, _ => by simp at h
  | y :: l, i, h, hi => by
    rw [cnt] at hi
    split at hi
    · omega
    · rename_i hx
      cases i with
      | zero => simpa using hx
      | succ i => exact cnt_before x l i (by simpa using h) (by omega)
theorem cnt_at (x : S49) : ∀ (l : List S49) (h : cnt x l < l.length), leE x l[cnt x l] = true
  | [], h => by simp [cnt] at h
  | y :: l, h => by
    by_cases hx : leE x y = true
    · have e : cnt x (y :: l) = 0 := by rw [cnt, if_pos hx]
      simp only [e]
      exact hx
    · have e : cnt x (y :: l) = cnt x l + 1 := by rw [cnt, if_neg hx]
      have h' : cnt x l < l.length := by rw [e] at h; simpa using h
      simp only [e]
      exact cnt_at x l h'
theorem less_f (y x : S49) : spec_l5Less.f y.f0 y.f1 x.f0 x.f1 = some (!(leE x y)) := by
  unfold spec_l5Less.f leE
  by_cases h1 : y.f1 < x.f1
  · rw [if_pos h1, decide_eq_false (by omega)]; rfl
  · rw [if_neg h1]
    by_cases h2 : y.f1 = x.f1
    · rw [if_pos h2]
      by_cases h3 : y.f0 < x.f0
      · rw [decide_eq_true h3, decide_eq_false (by omega)]; rfl
      · rw [decide_eq_false h3, decide_eq_true (by omega)]; rfl
    · rw [if_neg h2, decide_eq_true (by omega)]; rfl
theorem bysize1 (l : List S49) (out : List S49) (x : S49) (i : Nat) (r : List S49) (hl : l.length < 2 ^ 40) (ho : out.length < 2 ^ 40) (hr : Ev (fun k => spec_l5BySize.l0 k (insE x out) l (l.length : Int) ((i + 1 : Nat) : Int)) r) (hi : i < 2 ^ 41) (d : Nat) : ∀ (q : Nat), q + d = cnt x out →
    Ev (fun k => spec_l5BySize.l1 k out (q : Int) l (l.length : Int) (i : Int) x.f0 x.f1) r := by
  have hc := cnt_le x out
  induction d with
  | zero =>
    intro q hq
    have hq' : q = cnt x out := by omega
    have hins : insE x out = (([] : List S49) ++ out.take q) ++ [x] ++ out.drop q := by rw [hq', insE_cnt x out]; simp
    have hfin : ∀ k, spec_l5BySize.l1 (k + 1) out (q : Int) l (l.length : Int) (i : Int) x.f0 x.f1 = spec_l5BySize.l0 k (insE x out) l (l.length : Int) ((i + 1 : Nat) : Int) := fun k => by
      rw [spec_l5BySize.l1]
      have tl : (out.take q).length = q := by rw [List.length_take]; omega
      have dl : (out.drop q).length = out.length - q := List.length_drop
      by_cases hlt : (q : Int) < (out.length : Int)
      · have hq2 : q < out.length := by omega
        have hat := cnt_at x out (by omega)
        have hle : leE x out[q] = true := by simp only [hq']; exact hat
        rw [if_pos hlt, if_pos (by omega), rd_extent, gat z49 hq2, less_f, hle]
        simp only [Option.bind_some, Bool.not_true, Bool.false_eq_true, if_false, Int.toNat_natCast]
        rw [if_pos (by omega), if_pos (by simp only [List.length_nil]; omega), if_pos (by simp only [List.nil_append]; omega), if_pos (by simp only [List.nil_append, List.length_append, List.length_cons, List.length_nil]; omega), inc i (by omega), hins]
      · rw [if_neg hlt, if_pos (by omega), if_pos (by omega)]
        simp only [Option.bind_some, Int.toNat_natCast]
        rw [if_pos (by simp only [List.length_nil]; omega), if_pos (by simp only [List.nil_append]; omega), if_pos (by simp only [List.nil_append, List.length_append, List.length_cons, List.length_nil]; omega), inc i (by omega), hins]
    exact Ev.step hfin hr
  | succ d ih =>
    intro q hq
    have hq2 : q < out.length := by omega
    have hle := cnt_before x out q hq2 (by omega)
    refine Ev.step (fun k => ?_) (ih (q + 1) (by omega))
    rw [spec_l5BySize.l1, if_pos (by omega), if_pos (by omega), rd_extent, gat z49 hq2, less_f, hle]
    simp only [Option.bind_some, Bool.not_false, if_true]
    rw [inc q (by omega)]
theorem bysize0 (l : List S49) (hl : l.length < 2 ^ 30) (d : Nat) : ∀ (i : Nat) (out : List S49), i + d = l.length → out.length = i →
    ∃ r, Ev (fun k => spec_l5BySize.l0 k out l (l.length : Int) (i : Int)) r ∧ List.Perm r (out ++ l.drop i) ∧ (List.Pairwise (fun a b => leE a b = true) out → List.Pairwise (fun a b => leE a b = true) r) := by
  induction d with
  | zero =>
    intro i out hi ho
    exact ⟨out, Ev.step (fun k => by rw [spec_l5BySize.l0, if_neg (by omega)]) (Ev.now _), by rw [List.drop_eq_nil_of_le (by omega), List.append_nil], fun h => h⟩
  | succ d ih =>
    intro i out hi ho
    have hlt : i < l.length := by omega
    have hlen : (insE l[i] out).length = i + 1 := by rw [(insE_perm l[i] out).length_eq, List.length_cons]; omega
    obtain ⟨r, h1, h2, h3⟩ := ih (i + 1) (insE l[i] out) (by omega) hlen
    refine ⟨r, Ev.step (fun k => ?_) (bysize1 l out l[i] i r (by omega) (by omega) h1 (by omega) (cnt l[i] out) 0 (by omega)), ?_, fun h => h3 (insE_pair _ _ h)⟩
    · rw [spec_l5BySize.l0, if_pos (by omega), if_pos (by omega), if_pos (by omega), rd_extent, gat z49 hlt]
      rfl
    · rw [List.drop_eq_getElem_cons hlt]
      exact h2.trans (((insE_perm l[i] out).append_right _).trans List.perm_middle.symm)
theorem bysize (l : List S49) (hl : l.length < 2 ^ 30) : Ev (fun k => spec_l5BySize.f k l) (sortE l) := by
  obtain ⟨r, h1, h2, h3⟩ := bysize0 l hl l.length 0 [] (by omega) rfl
  rw [List.drop_zero, List.nil_append] at h2
  rw [← sortE_uniq l r h2 (h3 List.Pairwise.nil)]
  exact h1

theorem addw (a b : Int) (h : -9223372036854775808 ≤ a + b) (h' : a + b < 9223372036854775808) : wrap64 (a + b) = a + b := by unfold wrap64; omega
theorem subw (a b : Int) (h : -9223372036854775808 ≤ a - b) (h' : a - b < 9223372036854775808) : wrap64 (a - b) = a - b := by unfold wrap64; omega
/-- where the extent ahead of number i ends -/
def prevE (l : List S49) (i : Nat) : Int := if i = 0 then -1 else (l.getD (i - 1) z49).f0 + (l.getD (i - 1) z49).f1
theorem chain_get (B : Int) (l : List S49) : ∀ (p : Int), chain B p l = true → ∀ (i : Nat) (h : i < l.length), 0 ≤ l[i].f0 ∧ 1 ≤ l[i].f1 ∧ l[i].f0 + l[i].f1 ≤ B := by
  induction l with
  | nil => intro p _ i h; simp at h
  | cons x l ih =>
    intro p hc i h
    rw [chain, Bool.and_eq_true, decide_eq_true_eq] at hc
    cases i with
    | zero => exact hc.1.2
    | succ i => exact ih _ hc.2 i (by simpa using h)
theorem prevE_succ (l : List S49) (i : Nat) (h : i < l.length) : prevE l (i + 1) = l[i].f0 + l[i].f1 := by
  unfold prevE
  rw [if_neg (by omega), Nat.add_sub_cancel, gat z49 h]
theorem place_l (l : List S49) (B : Int) (hB : -9223372036854775808 ≤ B ∧ B < 9223372036854775808) (hl : l.length < 2 ^ 40) (d : Nat) : ∀ (i : Nat), i + d = l.length → (i = 0 ∨ ∃ h : i - 1 < l.length, 0 ≤ l[i - 1].f0 ∧ 1 ≤ l[i - 1].f1 ∧ l[i - 1].f0 + l[i - 1].f1 ≤ B) →
    (∀ x ∈ l, -9223372036854775808 ≤ x.f0 ∧ x.f0 < 9223372036854775808 ∧ -9223372036854775808 ≤ x.f1 ∧ x.f1 < 9223372036854775808) →
    Ev (fun k => spec_l5Place.l0 k l B l (l.length : Int) (i : Int)) (chain B (prevE l i) (l.drop i) && okB B l) := by
  induction d with
  | zero =>
    intro i hi _ _
    rw [List.drop_eq_nil_of_le (by omega), chain, Bool.true_and]
    refine Ev.step (fun k => by rw [spec_l5Place.l0, if_neg (by omega), l1In_tells]) ?_
    refine ev_some ?_
    unfold okB
    by_cases h : 1 ≤ B ∧ B ≤ 400
    · refine evp (decide_eq_true (by omega)) ?_
      rw [decide_eq_true h, Bool.true_and]
      exact Ev.congr (fun _ => by congr 1; rw [decide_eq_decide]; omega) (Ev.now _)
    · refine evn (by rw [decide_eq_true_eq]; omega) ?_
      rw [decide_eq_false h, Bool.false_and]
      exact Ev.now _
  | succ d ih =>
    intro i hi hp hw
    have hlt : i < l.length := by omega
    have hx := hw l[i] (List.getElem_mem hlt)
    rw [List.drop_eq_getElem_cons hlt, chain]
    have hrd := gat z49 hlt
    by_cases hc : prevE l i < l[i].f0 ∧ 0 ≤ l[i].f0 ∧ 1 ≤ l[i].f1 ∧ l[i].f0 + l[i].f1 ≤ B
    · rw [decide_eq_true hc, Bool.true_and, ← prevE_succ l i hlt]
      refine Ev.step (fun k => ?_) (ih (i + 1) (by omega) (Or.inr ⟨by omega, by simp only [Nat.add_sub_cancel]; exact hc.2⟩) hw)
      rw [spec_l5Place.l0, if_pos (by omega), if_pos (by omega), if_pos (by omega), rd_extent, hrd, if_neg (by omega), if_neg (by omega), if_neg (by omega), subw B _ (by omega) (by omega), if_neg (by omega)]
      by_cases h0 : i = 0
      · rw [if_neg (by omega), inc i (by omega)]
      · obtain ⟨hq, hq1⟩ := hp.resolve_left h0
        have e1 : wrap64 ((i : Int) - 1) = ((i - 1 : Nat) : Int) := by unfold wrap64; omega
        have hpv : prevE l i = l[i - 1].f0 + l[i - 1].f1 := by unfold prevE; rw [if_neg h0, gat z49 hq]
        rw [if_pos (by omega), e1, if_pos (by omega), if_pos (by omega), rd_extent, gat z49 hq, addw _ _ (by omega) (by omega), if_neg (by omega), inc i (by omega)]
    · rw [decide_eq_false hc, Bool.false_and, Bool.false_and]
      refine Ev.step (f := fun _ => some false) (fun k => ?_) (Ev.now _)
      rw [spec_l5Place.l0, if_pos (by omega), if_pos (by omega), if_pos (by omega), rd_extent, hrd]
      by_cases c1 : l[i].f0 < 0
      · rw [if_pos c1]
      rw [if_neg c1]
      by_cases c2 : l[i].f1 < 1
      · rw [if_pos c2]
      rw [if_neg c2]
      by_cases c3 : l[i].f1 > B
      · rw [if_pos c3]
      rw [if_neg c3, subw B _ (by omega) (by omega)]
      by_cases c4 : l[i].f0 > B - l[i].f1
      · rw [if_pos c4]
      rw [if_neg c4]
      have h0 : i ≠ 0 := by
        rintro rfl
        exact hc ⟨by unfold prevE; rw [if_pos rfl]; omega, by omega⟩
      obtain ⟨hq, hq1⟩ := hp.resolve_left h0
      have e1 : wrap64 ((i : Int) - 1) = ((i - 1 : Nat) : Int) := by unfold wrap64; omega
      have hpv : prevE l i = l[i - 1].f0 + l[i - 1].f1 := by unfold prevE; rw [if_neg h0, gat z49 hq]
      rw [if_pos (by omega), e1, if_pos (by omega), if_pos (by omega), rd_extent, gat z49 hq, addw _ _ (by omega) (by omega), if_pos (by omega)]
/-- whether all numbers fit -/
def fits (l : List S49) : Prop := ∀ x ∈ l, -9223372036854775808 ≤ x.f0 ∧ x.f0 < 9223372036854775808 ∧ -9223372036854775808 ≤ x.f1 ∧ x.f1 < 9223372036854775808
theorem place (l : List S49) (B : Int) (hB : -9223372036854775808 ≤ B ∧ B < 9223372036854775808) (hl : l.length < 2 ^ 40) (hw : fits l) : Ev (fun k => spec_l5Place.f k l B) (chain B (-1) l && okB B l) := by
  have h := place_l l B hB hl l.length 0 (by omega) (Or.inl rfl) hw
  rw [List.drop_zero] at h
  exact h
theorem ext49 (x y : S49) : ((x.f0 == y.f0) && (x.f1 == y.f1)) = true ↔ x = y := by
  obtain ⟨x0, x1⟩ := x
  obtain ⟨y0, y1⟩ := y
  simp
/-- '==' of rows -/
def sameE : List S49 → List S49 → Bool
  | [], [] => true
  | x :: l, y :: m => ((x.f0 == y.f0) && (x.f1 == y.f1)) && sameE l m
  | _, _ => false
theorem sameE_iff : ∀ (l m : List S49), sameE l m = true ↔ l = m
  | [], [] => by simp [sameE]
  | [], y :: m => by simp [sameE]
  | x :: l, [] => by simp [sameE]
  | x :: l, y :: m => by rw [sameE, Bool.and_eq_true, ext49, sameE_iff l m, List.cons.injEq]
theorem neE (x y : S49) : (!(x.f0 == y.f0) || !(x.f1 == y.f1)) = !((x.f0 == y.f0) && (x.f1 == y.f1)) := by cases (x.f0 == y.f0) <;> cases (x.f1 == y.f1) <;> rfl
theorem same_l (l m : List S49) (hl : l.length < 2 ^ 40) (he : l.length = m.length) (d : Nat) : ∀ (i : Nat), i + d = l.length →
    Ev (fun k => spec_l5Same.l0 k l m (l.length : Int) (i : Int)) (sameE (l.drop i) (m.drop i)) ∧ Ev (fun k => impl_Extent_46.l0 k l m (l.length : Int) (i : Int)) (sameE (l.drop i) (m.drop i)) := by
  induction d with
  | zero =>
    intro i hi
    rw [List.drop_eq_nil_of_le (by omega), List.drop_eq_nil_of_le (by omega), sameE]
    exact ⟨Ev.step (fun k => by rw [spec_l5Same.l0, if_neg (by omega)]) (Ev.now _), Ev.step (fun k => by rw [impl_Extent_46.l0, if_neg (by omega)]) (Ev.now _)⟩
  | succ d ih =>
    intro i hi
    have h1 : i < l.length := by omega
    have h2 : i < m.length := by omega
    have hih := ih (i + 1) (by omega)
    rw [List.drop_eq_getElem_cons h1, List.drop_eq_getElem_cons h2, sameE]
    have s1 : ∀ k, spec_l5Same.l0 (k + 1) l m (l.length : Int) (i : Int) = if (!((l[i].f0 == m[i].f0) && (l[i].f1 == m[i].f1))) = true then some false else spec_l5Same.l0 k l m (l.length : Int) ((i + 1 : Nat) : Int) := fun k => by
      rw [spec_l5Same.l0, if_pos (by omega), if_pos (by omega), if_pos (by omega), if_pos (by omega), rd_extent, rd_extent, gat z49 h1, gat z49 h2, neE, inc i (by omega)]
    have s2 : ∀ k, impl_Extent_46.l0 (k + 1) l m (l.length : Int) (i : Int) = if (!((l[i].f0 == m[i].f0) && (l[i].f1 == m[i].f1))) = true then some false else impl_Extent_46.l0 k l m (l.length : Int) ((i + 1 : Nat) : Int) := fun k => by
      rw [impl_Extent_46.l0, if_pos (by omega), if_pos (by omega), if_pos (by omega), if_pos (by omega), rd_extent, rd_extent, gat z49 h1, gat z49 h2, neE, inc i (by omega)]
    refine ⟨Ev.step s1 ?_, Ev.step s2 ?_⟩
    · cases ((l[i].f0 == m[i].f0) && (l[i].f1 == m[i].f1))
      · exact evp rfl (Ev.now _)
      · exact evn (by decide) hih.1
    · cases ((l[i].f0 == m[i].f0) && (l[i].f1 == m[i].f1))
      · exact evp rfl (Ev.now _)
      · exact evn (by decide) hih.2
theorem sameE_len : ∀ (l m : List S49), l.length ≠ m.length → sameE l m = false
  | [], [], h => by simp at h
  | [], y :: m, _ => rfl
  | x :: l, [], _ => rfl
  | x :: l, y :: m, h => by rw [sameE, sameE_len l m (fun e => h (by simp [e])), Bool.and_false]
theorem same (l m : List S49) (hl : l.length < 2 ^ 40) : Ev (fun k => spec_l5Same.f k l m) (sameE l m) ∧ Ev (fun k => impl_Extent_46.f k l m) (sameE l m) := by
  unfold spec_l5Same.f impl_Extent_46.f
  by_cases he : l.length = m.length
  · have h := same_l l m hl he l.length 0 (by omega)
    rw [List.drop_zero, List.drop_zero] at h
    exact ⟨evp (by omega) h.1, evp (by omega) h.2⟩
  · rw [sameE_len l m he]
    exact ⟨evn (by omega) (Ev.now _), evn (by omega) (Ev.now _)⟩
/-- what free space's form asks -/
def goodF (B : Int) (p s : List S49) : Bool := (chain B (-1) p && okB B p) && sameE (sortE p) s
theorem spec_goodF (B : Int) (p s : List S49) (hB : -9223372036854775808 ≤ B ∧ B < 9223372036854775808) (hl : p.length < 2 ^ 30) (hw : fits p) : Ev (fun k => spec_GoodFree.f k B p s) (goodF B p s) := by
  unfold spec_GoodFree.f goodF
  refine Ev.bind (place p B hB (by omega) hw) ?_
  cases chain B (-1) p && okB B p
  · exact evn (by decide) (Ev.now _)
  · exact evp rfl (Ev.bind (bysize p hl) (Ev.bind (same _ s (by rw [sortE_len]; omega)).1 (by rw [Bool.true_and]; exact Ev.now _)))
theorem isExtent_f (a l B : Int) (hB : 0 ≤ B ∧ B ≤ 400) (ha : -9223372036854775808 ≤ a ∧ a < 9223372036854775808) : impl_isExtent.f a l B = some (decide (0 ≤ a ∧ 1 ≤ l ∧ a + l ≤ B)) := by
  unfold impl_isExtent.f
  rw [subw B 1 (by omega) (by omega), within_tells, Option.bind_some]
  by_cases h : a ≥ 0 ∧ a ≤ B - 1
  · rw [decide_eq_true h, if_pos rfl, subw B a (by omega) (by omega), within_tells, Option.bind_some]
    congr 1
    rw [decide_eq_decide]
    omega
  · rw [decide_eq_false h, if_neg (by decide)]
    congr 1
    exact (decide_eq_false (by omega)).symm
theorem implgood_l (B : Int) (p s : List S49) (hB : 1 ≤ B ∧ B ≤ 400) (hl : p.length < 2 ^ 30) (hw : fits p) (d : Nat) : ∀ (i : Nat), i + d = p.length → (i = 0 ∨ ∃ h : i - 1 < p.length, 0 ≤ p[i - 1].f0 ∧ 1 ≤ p[i - 1].f1 ∧ p[i - 1].f0 + p[i - 1].f1 ≤ B) →
    Ev (fun k => impl_GoodFree.l0 k p (p.length : Int) (i : Int) B p s) (chain B (prevE p i) (p.drop i) && sameE (sortE p) s) := by
  induction d with
  | zero =>
    intro i hi _
    rw [List.drop_eq_nil_of_le (by omega), chain, Bool.true_and]
    refine Ev.step (fun k => by rw [impl_GoodFree.l0, if_neg (by omega)]) (ev_to_some (show impl_freeOf.f B p = some (sortE p) by unfold impl_freeOf.f; rw [if_pos (by omega)]) ?_)
    exact Ev.bind (same _ s (by rw [sortE_len]; omega)).2 (Ev.now _)
  | succ d ih =>
    intro i hi hp
    have hlt : i < p.length := by omega
    have hx := hw p[i] (List.getElem_mem hlt)
    rw [List.drop_eq_getElem_cons hlt, chain]
    have hrd := gat z49 hlt
    have hst : ∀ k, impl_GoodFree.l0 (k + 1) p (p.length : Int) (i : Int) B p s = if decide (0 ≤ p[i].f0 ∧ 1 ≤ p[i].f1 ∧ p[i].f0 + p[i].f1 ≤ B) = true then (if (i : Int) > 0 then (if 0 ≤ wrap64 ((i : Int) - 1) then (if wrap64 ((i : Int) - 1) < (p.length : Int) then (if p[i].f0 ≤ wrap64 ((rd_T49 p (wrap64 ((i : Int) - 1))).f0 + (rd_T49 p (wrap64 ((i : Int) - 1))).f1) then some false else impl_GoodFree.l0 k p (p.length : Int) (wrap64 ((i : Int) + 1)) B p s) else none) else none) else impl_GoodFree.l0 k p (p.length : Int) (wrap64 ((i : Int) + 1)) B p s) else some false := fun k => by
      rw [impl_GoodFree.l0, if_pos (by omega), if_pos (by omega), if_pos (by omega), rd_extent, hrd, isExtent_f _ _ _ (by omega) (by omega), Option.bind_some]
    refine Ev.step hst ?_
    by_cases hc : 0 ≤ p[i].f0 ∧ 1 ≤ p[i].f1 ∧ p[i].f0 + p[i].f1 ≤ B
    · refine evp (decide_eq_true hc) ?_
      by_cases h0 : i = 0
      · refine evn (by omega) ?_
        have hpv : prevE p i = -1 := by unfold prevE; rw [if_pos h0]
        rw [decide_eq_true (show prevE p i < p[i].f0 ∧ 0 ≤ p[i].f0 ∧ 1 ≤ p[i].f1 ∧ p[i].f0 + p[i].f1 ≤ B from ⟨by omega, hc⟩), Bool.true_and, ← prevE_succ p i hlt, inc i (by omega)]
        exact ih (i + 1) (by omega) (Or.inr ⟨by omega, by simpa using hc⟩)
      · obtain ⟨hq, hq1⟩ := hp.resolve_left h0
        have e1 : wrap64 ((i : Int) - 1) = ((i - 1 : Nat) : Int) := by unfold wrap64; omega
        have hpv : prevE p i = p[i - 1].f0 + p[i - 1].f1 := by unfold prevE; rw [if_neg h0, gat z49 hq]
        rw [e1]
        refine evp (by omega) (evp (by omega) (evp (by omega) ?_))
        rw [rd_extent, gat z49 hq, addw _ _ (by omega) (by omega), inc i (by omega)]
        by_cases hlt2 : p[i].f0 ≤ p[i - 1].f0 + p[i - 1].f1
        · rw [decide_eq_false (by omega), Bool.false_and, Bool.false_and]
          exact evp hlt2 (Ev.now _)
        · rw [decide_eq_true (show prevE p i < p[i].f0 ∧ 0 ≤ p[i].f0 ∧ 1 ≤ p[i].f1 ∧ p[i].f0 + p[i].f1 ≤ B from ⟨by omega, hc⟩), Bool.true_and, ← prevE_succ p i hlt]
          exact evn hlt2 (ih (i + 1) (by omega) (Or.inr ⟨by omega, by simpa using hc⟩))
    · rw [decide_eq_false (show ¬ (prevE p i < p[i].f0 ∧ 0 ≤ p[i].f0 ∧ 1 ≤ p[i].f1 ∧ p[i].f0 + p[i].f1 ≤ B) from fun h => hc h.2), Bool.false_and, Bool.false_and]
      exact evn (by rw [decide_eq_true_eq]; exact hc) (Ev.now _)
theorem impl_goodF (B : Int) (p s : List S49) (hl : p.length < 2 ^ 30) (hw : fits p) : Ev (fun k => impl_GoodFree.f k B p s) (goodF B p s) := by
  unfold impl_GoodFree.f goodF okB
  refine ev_to_some (within_tells _ _ _) ?_
  by_cases h : 1 ≤ B ∧ B ≤ 400
  · refine evp (decide_eq_true (by omega)) ?_
    rw [decide_eq_true h, Bool.true_and]
    by_cases h6 : p.length ≤ 60
    · rw [decide_eq_false (show ¬ ((p.length : Int) > 60) by omega), decide_eq_true h6, Bool.and_true]
      have hh := implgood_l B p s h hl hw p.length 0 (by omega) (Or.inl rfl)
      rw [List.drop_zero] at hh
      exact Ev.step (fun k => by rw [impl_GoodFree.j0, if_neg (by decide)]; rfl) hh
    · rw [decide_eq_true (show ((p.length : Int) > 60) by omega), decide_eq_false h6, Bool.and_false, Bool.false_and]
      exact Ev.step (fun k => by rw [impl_GoodFree.j0, if_pos rfl]) (Ev.now _)
  · refine evn (by rw [decide_eq_true_eq]; omega) ?_
    rw [decide_eq_false h, Bool.false_and, Bool.and_false, Bool.false_and]
    exact Ev.step (fun k => by rw [impl_GoodFree.j0, if_pos rfl]) (Ev.now _)
theorem fits_conv (xs : List S47) (h : ∀ x ∈ xs, okS47 x) : fits (xs.map convExtent) := by
  intro y hy
  obtain ⟨x, hx, rfl⟩ := List.mem_map.mp hy
  have := h x hx
  unfold okS47 at this
  have h1 := bounds_i64 this.1
  have h2 := bounds_i64 this.2
  unfold convExtent
  simp only
  omega

theorem goodF_chain {B : Int} {p s : List S49} (h : goodF B p s = true) : chain B (-1) p = true ∧ (1 ≤ B ∧ B ≤ 400) ∧ p.length ≤ 60 ∧ s = sortE p := by
  unfold goodF okB at h
  simp only [Bool.and_eq_true, decide_eq_true_eq, sameE_iff] at h
  exact ⟨h.1.1, h.1.2.1, h.1.2.2, h.2.symm⟩
theorem chain_mem {B : Int} {p : List S49} {q : Int} (h : chain B q p = true) (x : S49) (hx : x ∈ p) : 0 ≤ x.f0 ∧ 1 ≤ x.f1 ∧ x.f0 + x.f1 ≤ B := by
  obtain ⟨i, hi, rfl⟩ := List.getElem_of_mem hx
  exact chain_get B p q h i hi

def inE (a : Int) (x : S49) : Bool := decide (x.f0 ≤ a ∧ a < x.f0 + x.f1)
def isIn (l : List S49) (a : Int) : Bool := l.any (inE a)
/-- n answers -/
def bm (n : Nat) (f : Int → Bool) : List Bool := (List.range n).map fun a : Nat => f (a : Int)
theorem bm_len (n : Nat) (f : Int → Bool) : (bm n f).length = n := by simp [bm]
theorem bm_get (n : Nat) (f : Int → Bool) (j : Nat) (h : j < n) : (bm n f).getD j false = f (j : Int) := by simp [bm, List.getD_eq_getElem?_getD, h]
theorem bm_set (n : Nat) (f : Int → Bool) (j : Nat) (v : Bool) (h : j < n) : (bm n f).set j v = bm n (fun a => if a = (j : Int) then v else f a) := by
  refine gext false (by rw [List.length_set, bm_len, bm_len]) (fun q hq => ?_)
  rw [List.length_set, bm_len] at hq
  rw [gset false _ _ _ _ (by rw [bm_len]; exact h), bm_get _ _ _ hq, bm_get _ _ _ hq]
  by_cases e : q = j
  · rw [if_pos e, if_pos (by omega)]
  · rw [if_neg e, if_neg (by omega)]
theorem bm_congr {n : Nat} {f g : Int → Bool} (h : ∀ a : Int, 0 ≤ a → a < n → f a = g a) : bm n f = bm n g := by
  unfold bm
  exact List.map_congr_left (fun j hj => h _ (by omega) (by have := List.mem_range.mp hj; omega))
theorem isfree1 (n : Nat) (hn : n ≤ 400) (p : List S49) (hl : p.length ≤ 60) (i : Nat) (hi : i < p.length) (hx : 0 ≤ p[i].f0 ∧ 1 ≤ p[i].f1 ∧ p[i].f0 + p[i].f1 ≤ n) (r : List Bool) (d : Nat) : ∀ (q : Nat) (f : Int → Bool), (q : Int) + d = p[i].f1 →
    Ev (fun k => impl_Free_isFree.l0 k (bm n (fun a => f a || decide (p[i].f0 + q ≤ a ∧ a < p[i].f0 + p[i].f1))) p (p.length : Int) ((i + 1 : Nat) : Int)) r →
    Ev (fun k => impl_Free_isFree.l1 k (bm n f) p (p.length : Int) (i : Int) p[i].f1 (q : Int) p[i].f0 p[i].f1) r := by
  induction d with
  | zero =>
    intro q f hq hr
    have e : bm n (fun a => f a || decide (p[i].f0 + q ≤ a ∧ a < p[i].f0 + p[i].f1)) = bm n f := bm_congr (fun a _ _ => by rw [decide_eq_false (by omega), Bool.or_false])
    rw [e] at hr
    exact Ev.step (fun k => by rw [impl_Free_isFree.l1, if_neg (by omega), inc i (by omega)]) hr
  | succ d ih =>
    intro q f hq hr
    have hj : (p[i].f0 + q).toNat < n := by omega
    have e0 : (((p[i].f0 + q).toNat : Nat) : Int) = p[i].f0 + q := by omega
    refine Ev.step (fun k => ?_) (ih (q + 1) (fun a => if a = (((p[i].f0 + q).toNat : Nat) : Int) then true else f a) (by omega) ?_)
    · rw [impl_Free_isFree.l1, if_pos (by omega), addw _ _ (by omega) (by omega), if_pos (by omega), if_pos (by rw [bm_len]; omega), inc q (by omega), bm_set n f _ true hj]
    · have e : bm n (fun a => (fun a => if a = (((p[i].f0 + q).toNat : Nat) : Int) then true else f a) a || decide (p[i].f0 + ((q + 1 : Nat) : Int) ≤ a ∧ a < p[i].f0 + p[i].f1)) = bm n (fun a => f a || decide (p[i].f0 + q ≤ a ∧ a < p[i].f0 + p[i].f1)) := bm_congr (fun a _ _ => by
        show ((if a = (((p[i].f0 + q).toNat : Nat) : Int) then true else f a) || decide (p[i].f0 + ((q + 1 : Nat) : Int) ≤ a ∧ a < p[i].f0 + p[i].f1)) = _
        rw [e0]
        by_cases h : a = p[i].f0 + q
        · rw [if_pos h, decide_eq_true (show p[i].f0 + q ≤ a ∧ a < p[i].f0 + p[i].f1 by omega), Bool.or_true, Bool.true_or]
        · rw [if_neg h]
          congr 1
          rw [decide_eq_decide]
          omega)
      rw [e]
      exact hr
theorem isfree0 (n : Nat) (hn : n ≤ 400) (p : List S49) (hl : p.length ≤ 60) (hx : ∀ x ∈ p, 0 ≤ x.f0 ∧ 1 ≤ x.f1 ∧ x.f0 + x.f1 ≤ n) (d : Nat) : ∀ (i : Nat) (f : Int → Bool), i + d = p.length →
    Ev (fun k => impl_Free_isFree.l0 k (bm n f) p (p.length : Int) (i : Int)) (bm n (fun a => f a || isIn (p.drop i) a)) := by
  induction d with
  | zero =>
    intro i f hi
    rw [List.drop_eq_nil_of_le (by omega)]
    have e : bm n (fun a => f a || isIn [] a) = bm n f := bm_congr (fun a _ _ => by simp [isIn])
    rw [e]
    exact Ev.step (fun k => by rw [impl_Free_isFree.l0, if_neg (by omega)]) (Ev.now _)
  | succ d ih =>
    intro i f hi
    have hlt : i < p.length := by omega
    have hxi := hx _ (List.getElem_mem hlt)
    refine Ev.step (fun k => by rw [impl_Free_isFree.l0, if_pos (by omega), if_pos (by omega), if_pos (by omega), rd_extent, gat z49 hlt]; rfl) (isfree1 n hn p hl i hlt hxi _ p[i].f1.toNat 0 f (by omega) ?_)
    have := ih (i + 1) (fun a => f a || decide (p[i].f0 + ((0 : Nat) : Int) ≤ a ∧ a < p[i].f0 + p[i].f1)) (by omega)
    have e : bm n (fun a => (fun a => f a || decide (p[i].f0 + ((0 : Nat) : Int) ≤ a ∧ a < p[i].f0 + p[i].f1)) a || isIn (p.drop (i + 1)) a) = bm n (fun a => f a || isIn (p.drop i) a) := bm_congr (fun a _ _ => by
      show ((f a || decide (p[i].f0 + ((0 : Nat) : Int) ≤ a ∧ a < p[i].f0 + p[i].f1)) || isIn (p.drop (i + 1)) a) = _
      rw [List.drop_eq_getElem_cons hlt]
      unfold isIn
      rw [List.any_cons, Bool.or_assoc]
      congr 2
      unfold inE
      rw [decide_eq_decide]
      omega)
    rw [e] at this
    exact this
theorem isfree (B : Int) (p s : List S49) (hB : 0 ≤ B ∧ B ≤ 400) (hl : p.length ≤ 60) (hx : ∀ x ∈ p, 0 ≤ x.f0 ∧ 1 ≤ x.f1 ∧ x.f0 + x.f1 ≤ B) : Ev (fun k => impl_Free_isFree.f k B p s) (bm B.toNat (isIn p)) := by
  unfold impl_Free_isFree.f
  refine evp hB.1 (evp (by omega) ?_)
  have e0 : List.replicate B.toNat false = bm B.toNat (fun _ => false) := by simp [bm, List.map_const']
  have h := isfree0 B.toNat (by omega) p hl (fun x hxx => by have := hx x hxx; omega) p.length 0 (fun _ => false) (by omega)
  rw [List.drop_zero] at h
  have e1 : bm B.toNat (fun a => (fun _ => false) a || isIn p a) = bm B.toNat (isIn p) := bm_congr (fun a _ _ => by simp)
  rw [e1] at h
  rw [e0]
  exact h

theorem chain_cons {B p : Int} {x : S49} {l : List S49} (h : chain B p (x :: l) = true) : (p < x.f0 ∧ 0 ≤ x.f0 ∧ 1 ≤ x.f1 ∧ x.f0 + x.f1 ≤ B) ∧ chain B (x.f0 + x.f1) l = true := by
  rw [chain, Bool.and_eq_true, decide_eq_true_eq] at h
  exact h
theorem chain_mk {B p : Int} {x : S49} {l : List S49} (h : p < x.f0 ∧ 0 ≤ x.f0 ∧ 1 ≤ x.f1 ∧ x.f0 + x.f1 ≤ B) (h2 : chain B (x.f0 + x.f1) l = true) : chain B p (x :: l) = true := by
  rw [chain, Bool.and_eq_true, decide_eq_true_eq]
  exact ⟨h, h2⟩
theorem chain_low {B : Int} {l : List S49} : ∀ {p q : Int}, q ≤ p → chain B p l = true → chain B q l = true := by
  intro p q h hc
  cases l with
  | nil => rfl
  | cons x l => obtain ⟨h1, h2⟩ := chain_cons hc; exact chain_mk (by omega) h2
theorem isIn_cons (x : S49) (l : List S49) (a : Int) : isIn (x :: l) a = (inE a x || isIn l a) := by unfold isIn; rw [List.any_cons]
theorem inE_t {a : Int} {x : S49} (h : x.f0 ≤ a ∧ a < x.f0 + x.f1) : inE a x = true := decide_eq_true h
theorem inE_f {a : Int} {x : S49} (h : ¬ (x.f0 ≤ a ∧ a < x.f0 + x.f1)) : inE a x = false := decide_eq_false h
theorem isIn_low {B : Int} : ∀ {l : List S49} {p a : Int}, chain B p l = true → a ≤ p → isIn l a = false
  | [], _, _, _, _ => rfl
  | x :: l, p, a, hc, ha => by
    obtain ⟨h1, h2⟩ := chain_cons hc
    rw [isIn_cons, inE_f (by omega), isIn_low h2 (by omega)]
    rfl
/-- what a merge has, when it is at q -/
def clip (q : Int) : List S49 → List S49
  | [] => []
  | x :: l => if x.f0 < q then ⟨x.f0, if x.f0 + x.f1 ≤ q then x.f1 else q - x.f0⟩ :: clip q l else []
/-- one more block of the merge -/
def stepM (a : Int) : List S49 → List S49
  | [] => [⟨a, 1⟩]
  | x :: l => if l = [] then (if x.f0 + x.f1 = a then [⟨x.f0, x.f1 + 1⟩] else [x, ⟨a, 1⟩]) else x :: stepM a l
theorem clip_none {B : Int} {l : List S49} {p q : Int} (hc : chain B p l = true) (h : q ≤ p + 1) : clip q l = [] := by
  cases l with
  | nil => rfl
  | cons x l => obtain ⟨h1, _⟩ := chain_cons hc; rw [clip, if_neg (by omega)]
theorem clip_all {B : Int} : ∀ {l : List S49} {p : Int}, chain B p l = true → clip B l = l
  | [], _, _ => rfl
  | x :: l, p, hc => by
    obtain ⟨h1, h2⟩ := chain_cons hc
    rw [clip, if_pos (by omega), if_pos h1.2.2.2, clip_all h2]
theorem clip_mem {B : Int} : ∀ {l : List S49} {p q : Int}, chain B p l = true → ∀ x ∈ clip q l, 0 ≤ x.f0 ∧ 1 ≤ x.f1 ∧ x.f0 + x.f1 ≤ B
  | [], _, _, _, x, hx => by cases hx
  | y :: l, p, q, hc, x, hx => by
    obtain ⟨h1, h2⟩ := chain_cons hc
    rw [clip] at hx
    by_cases hq : y.f0 < q
    · rw [if_pos hq] at hx
      rcases List.mem_cons.mp hx with rfl | hx
      · show 0 ≤ y.f0 ∧ 1 ≤ (if y.f0 + y.f1 ≤ q then y.f1 else q - y.f0) ∧ y.f0 + (if y.f0 + y.f1 ≤ q then y.f1 else q - y.f0) ≤ B
        split <;> omega
      · exact clip_mem h2 x hx
    · rw [if_neg hq] at hx; cases hx
theorem clip_off {B : Int} : ∀ {l : List S49} {p q : Int}, chain B p l = true → isIn l q = false → clip (q + 1) l = clip q l
  | [], _, _, _, _ => rfl
  | x :: l, p, q, hc, hi => by
    obtain ⟨h1, h2⟩ := chain_cons hc
    rw [isIn_cons, Bool.or_eq_false_iff] at hi
    have hx := hi.1
    unfold inE at hx
    rw [decide_eq_false_iff_not] at hx
    rw [clip, clip]
    by_cases hq : x.f0 < q
    · rw [if_pos hq, if_pos (by omega), if_pos (by omega), if_pos (by omega), clip_off h2 hi.2]
    · rw [if_neg hq, if_neg (by omega)]
theorem clip_on {B : Int} : ∀ {l : List S49} {p q : Int}, chain B p l = true → isIn l q = true → clip (q + 1) l = stepM q (clip q l)
  | [], _, _, _, h => by cases h
  | x :: l, p, q, hc, hi => by
    obtain ⟨h1, h2⟩ := chain_cons hc
    rw [isIn_cons] at hi
    rw [clip, clip]
    by_cases hx : x.f0 ≤ q ∧ q < x.f0 + x.f1
    · have e1 := clip_none (q := q + 1) h2 (by omega)
      have e2 := clip_none (q := q) h2 (by omega)
      have f2 : (if x.f0 + x.f1 ≤ q + 1 then x.f1 else q + 1 - x.f0) = q + 1 - x.f0 := by split <;> omega
      rw [if_pos (by omega), e1, e2, f2]
      by_cases hq : x.f0 < q
      · have f1 : (if x.f0 + x.f1 ≤ q then x.f1 else q - x.f0) = q - x.f0 := if_neg (by omega)
        rw [if_pos hq, f1, stepM, if_pos rfl, if_pos (by show x.f0 + (q - x.f0) = q; omega)]
        congr 2
        show q + 1 - x.f0 = (q - x.f0) + 1
        omega
      · rw [if_neg hq, stepM]
        have : x.f0 = q := by omega
        rw [this]
        congr 2
        omega
    · rw [inE_f hx, Bool.false_or] at hi
      have hlt : x.f0 + x.f1 < q := by
        rcases Int.lt_or_le (x.f0 + x.f1) q with h | h
        · exact h
        · rw [isIn_low h2 h] at hi; cases hi
      rw [if_pos (by omega), if_pos (by omega), if_pos (by omega), if_pos (by omega), clip_on h2 hi, stepM]
      by_cases hn : clip q l = []
      · rw [if_pos hn, if_neg (by show ¬ (x.f0 + x.f1 = q); omega), hn, stepM]
      · rw [if_neg hn]
theorem stepM_put (a : Int) : ∀ (l : List S49) (h : l ≠ []), stepM a l = if (l.getD (l.length - 1) z49).f0 + (l.getD (l.length - 1) z49).f1 = a then l.set (l.length - 1) ⟨(l.getD (l.length - 1) z49).f0, (l.getD (l.length - 1) z49).f1 + 1⟩ else l ++ [⟨a, 1⟩]
  | [], h => absurd rfl h
  | [x], _ => rfl
  | x :: y :: l, _ => by
    rw [stepM, if_neg (by simp), stepM_put a (y :: l) (by simp)]
    have e : (x :: y :: l).length - 1 = ((y :: l).length - 1) + 1 := by simp
    rw [e, List.getD_cons_succ, List.set_cons_succ]
    split <;> rfl
theorem stepM_len (a : Int) : ∀ l : List S49, (stepM a l).length ≤ l.length + 1
  | [] => by simp [stepM]
  | x :: l => by
    rw [stepM]
    split
    · split <;> simp
    · have := stepM_len a l; simp only [List.length_cons]; omega
theorem merged_l (P : Int → Option Bool) (n : Nat) (hn : n ≤ 400) (c : List S49) (p : Int) (hc : chain n p c = true) (hP : ∀ i : Int, 0 ≤ i → i < n → P i = some (isIn c i)) (d : Nat) : ∀ (q : Nat), q + d = n → (clip q c).length ≤ q →
    Ev (fun k => impl_merged.l0 P k (clip q c) (n : Int) (q : Int)) (clip (n : Int) c) := by
  induction d with
  | zero =>
    intro q hq _
    have : q = n := by omega
    subst this
    exact Ev.step (fun k => by rw [impl_merged.l0, if_neg (by omega)]) (Ev.now _)
  | succ d ih =>
    intro q hq hl
    have hp := hP q (by omega) (by omega)
    cases hi : isIn c q with
    | false =>
      have e := clip_off hc hi
      rw [hi] at hp
      refine Ev.step (fun k => by rw [impl_merged.l0, if_pos (by omega), hp, Option.bind_some, if_neg (by decide), inc q (by omega)]) ?_
      have := ih (q + 1) (by omega) (by rw [show (((q + 1 : Nat) : Int)) = (q : Int) + 1 by omega, e]; omega)
      rw [show (((q + 1 : Nat) : Int)) = (q : Int) + 1 by omega, e] at this
      rw [show (((q + 1 : Nat) : Int)) = (q : Int) + 1 by omega]
      exact this
    | true =>
      have e := clip_on hc hi
      rw [hi] at hp
      have hll := stepM_len q (clip q c)
      have H := ih (q + 1) (by omega) (by rw [show (((q + 1 : Nat) : Int)) = (q : Int) + 1 by omega, e]; omega)
      rw [show (((q + 1 : Nat) : Int)) = (q : Int) + 1 by omega, e] at H
      have hm := clip_mem (q := q) hc
      generalize clip q c = o at *
      by_cases ho : o = []
      · subst ho
        have hw0 : wrap64 ((([] : List S49).length : Int) - 1) = -1 := by rw [List.length_nil]; unfold wrap64; omega
        exact Ev.step (fun k => by
          rw [impl_merged.l0, if_pos (by omega), hp, Option.bind_some, if_pos rfl, hw0, if_neg (by omega), if_pos (by simp), inc q (by omega), show (((q + 1 : Nat) : Int)) = (q : Int) + 1 by omega]
          rfl) H
      · have hlen : 0 < o.length := List.length_pos_iff.mpr ho
        have hw : wrap64 ((o.length : Int) - 1) = ((o.length - 1 : Nat) : Int) := by unfold wrap64; omega
        have hx := hm _ (gmem z49 (show o.length - 1 < o.length by omega))
        rw [stepM_put _ _ ho] at H
        refine Ev.step (fun k => ?_) H
        rw [impl_merged.l0, if_pos (by omega), hp, Option.bind_some, if_pos rfl, hw, if_pos (by omega), if_pos (by omega), if_pos (by omega), rd_extent, addw _ _ (by omega) (by omega), Int.toNat_natCast, addw _ 1 (by omega) (by omega), addw _ 1 (by omega) (by omega), if_pos (show o.length < 8796093022208 by omega)]
        split <;> rfl
theorem merged_chain (P : Int → Option Bool) (n : Nat) (hn : n ≤ 400) (c : List S49) (p : Int) (hp : -1 ≤ p) (hc : chain n p c = true) (hP : ∀ i : Int, 0 ≤ i → i < n → P i = some (isIn c i)) : Ev (fun k => impl_merged.f P k (n : Int)) c := by
  have e0 : clip ((0 : Nat) : Int) c = [] := clip_none hc (by omega)
  have h := merged_l P n hn c p hc hP n 0 (by omega) (by rw [e0]; exact Nat.le_refl 0)
  rw [e0, clip_all hc] at h
  exact h

theorem mark_extents_l (m : Nat) (hm : m < 2 ^ 44) (d : Nat) : ∀ (xs : List S49) (i : Nat), i + d = xs.length → xs.length < 2 ^ 40 → (∀ j, j < i → xs.getD j z49 = ⟨((m + 2 * j : Nat) : Int), ((m + 2 * j + 1 : Nat) : Int)⟩) →
    ∃ ys, Ev (fun k => laws_markExtentS.l0 k xs ((m + 2 * i : Nat) : Int) (i : Int)) (((m + 2 * xs.length : Nat) : Int), ys) ∧ ys.length = xs.length ∧ ∀ j, j < xs.length → ys.getD j z49 = ⟨((m + 2 * j : Nat) : Int), ((m + 2 * j + 1 : Nat) : Int)⟩ := by
  induction d with
  | zero =>
    intro xs i hi _ hxs
    refine ⟨xs, Ev.step (fun k => by rw [laws_markExtentS.l0, if_neg (by omega)]) (by rw [show i = xs.length by omega]; exact Ev.now _), rfl, fun j hj => hxs j (by omega)⟩
  | succ d ih =>
    intro xs i hi hl hxs
    obtain ⟨ys, hr, hn, hy⟩ := ih (xs.set i ⟨((m + 2 * i : Nat) : Int), ((m + 2 * i + 1 : Nat) : Int)⟩) (i + 1) (by rw [List.length_set]; omega) (by rw [List.length_set]; omega) (fun j hj => by
      rw [gset _ _ _ _ _ (by omega)]
      split
      · rename_i e; subst e; rfl
      · exact hxs j (by omega))
    rw [List.length_set] at hr hn hy
    have hw : wrap64 (((m + 2 * i : Nat) : Int) + 1) = ((m + 2 * i + 1 : Nat) : Int) := by unfold wrap64; omega
    have hw2 : wrap64 (((m + 2 * i + 1 : Nat) : Int) + 1) = ((m + 2 * (i + 1) : Nat) : Int) := by unfold wrap64; omega
    have st : ∀ k, laws_markExtentS.l0 (k + 1) xs ((m + 2 * i : Nat) : Int) (i : Int) = laws_markExtentS.l0 k (xs.set i ⟨((m + 2 * i : Nat) : Int), ((m + 2 * i + 1 : Nat) : Int)⟩) ((m + 2 * (i + 1) : Nat) : Int) ((i + 1 : Nat) : Int) := fun k => by
      rw [laws_markExtentS.l0]
      rw [if_pos (by omega), if_pos (by omega), Option.bind_some, hw, hw2, inc i (by omega), Int.toNat_natCast]
      simp only [rd_extent, List.set_set]
      rw [gset _ _ _ _ _ (by omega), if_pos rfl]
    exact ⟨ys, Ev.step st hr, hn, hy⟩
theorem held_extents_l (m : Nat) (hm : m < 2 ^ 44) (d : Nat) : ∀ (ys : List S49) (i : Nat), i + d = ys.length → ys.length < 2 ^ 40 → (∀ j, j < ys.length → ys.getD j z49 = ⟨((m + 2 * j : Nat) : Int), ((m + 2 * j + 1 : Nat) : Int)⟩) →
    Ev (fun k => laws_heldExtentS.l0 k ys ((m + 2 * i : Nat) : Int) (i : Int)) ((m + 2 * ys.length : Nat) : Int) := by
  induction d with
  | zero =>
    intro ys i hi _ _
    exact Ev.step (fun k => by rw [laws_heldExtentS.l0, if_neg (by omega)]) (by rw [show i = ys.length by omega]; exact Ev.now _)
  | succ d ih =>
    intro ys i hi hl hy
    have hw : wrap64 (((m + 2 * i : Nat) : Int) + 1) = ((m + 2 * i + 1 : Nat) : Int) := by unfold wrap64; omega
    have hw2 : wrap64 (((m + 2 * i + 1 : Nat) : Int) + 1) = ((m + 2 * (i + 1) : Nat) : Int) := by unfold wrap64; omega
    refine Ev.step (fun k => by
      rw [laws_heldExtentS.l0]
      rw [if_pos (by omega), if_pos (by omega), rd_extent, hy i (by omega)]
      rw [if_pos rfl, hw, if_pos rfl, hw2, inc i (by omega)]) (ih ys (i + 1) (by omega) hl hy)
theorem marked_extents (m : Nat) (hm : m < 2 ^ 44) (xs : List S49) (hl : xs.length < 2 ^ 40) :
    ∃ ys, Ev (fun k => laws_markExtentS.f k xs (m : Int)) (((m + 2 * xs.length : Nat) : Int), ys) ∧ ys.length = xs.length ∧ Ev (fun k => laws_heldExtentS.f k ys (m : Int)) ((m + 2 * xs.length : Nat) : Int) := by
  obtain ⟨ys, h1, h2, h3⟩ := mark_extents_l m hm xs.length xs 0 (by omega) hl (fun j hj => by omega)
  have h4 := held_extents_l m hm ys.length ys 0 (by omega) (by omega) (fun j hj => h3 j (by omega))
  rw [Nat.mul_zero, Nat.add_zero] at h1 h4
  rw [h2] at h4
  exact ⟨ys, h1, h2, h4⟩
theorem marked_free (b : Int) (xs ys : List S49) (hx : xs.length < 2 ^ 40) (hy : ys.length < 2 ^ 40) :
    ∃ us vs, Ev (fun k => laws_markFree.f k b xs ys 1) (((1 + 2 * xs.length + 2 * ys.length : Nat) : Int), us, vs) ∧ us.length = xs.length ∧ vs.length = ys.length ∧ Ev (fun k => laws_heldExtentS.f k us 1) ((1 + 2 * xs.length : Nat) : Int) ∧ Ev (fun k => laws_heldExtentS.f k vs ((1 + 2 * xs.length : Nat) : Int)) ((1 + 2 * xs.length + 2 * ys.length : Nat) : Int) := by
  obtain ⟨us, a1, a2, a3⟩ := marked_extents 1 (by omega) xs hx
  obtain ⟨vs, b1, b2, b3⟩ := marked_extents (1 + 2 * xs.length) (by omega) ys hy
  exact ⟨us, vs, Ev.bind a1 (Ev.bind b1 (Ev.now _)), a2, b2, a3, b3⟩
theorem marked_extents1 (xs : List S49) (hl : xs.length < 2 ^ 40) :
    ∃ ys, Ev (fun k => laws_markExtentS.f k xs 1) (((1 + 2 * xs.length : Nat) : Int), ys) ∧ ys.length = xs.length ∧ Ev (fun k => laws_heldExtentS.f k ys 1) ((1 + 2 * xs.length : Nat) : Int) := marked_extents 1 (by omega) xs hl

theorem held_free (b : Int) (n m : Nat) (us vs : List S49) (h1 : Ev (fun k => laws_heldExtentS.f k us 1) (n : Int)) (h2 : Ev (fun k => laws_heldExtentS.f k vs (n : Int)) (m : Int)) : Ev (fun k => laws_heldFree.f k b us vs 1) (m : Int) :=
  Ev.bind h1 (evn (nn n) (Ev.bind h2 (evn (nn m) (Ev.now _))))

/-- an extent laid into a list: none where one overlaps -/
def giveL : List S49 → Int → Int → Option (List S49)
  | [], a, n => some [⟨a, n⟩]
  | x :: l, a, n => if x.f0 + x.f1 < a then (giveL l a n).map (x :: ·) else if x.f0 > a + n then some (⟨a, n⟩ :: x :: l) else if x.f0 + x.f1 = a then giveL l x.f0 (x.f1 + n) else if x.f0 = a + n then giveL l a (n + x.f1) else none
theorem giveL_some {B : Int} : ∀ {l : List S49} {p a n : Int} {r : List S49}, chain B p l = true → p < a → 0 ≤ a → 1 ≤ n → a + n ≤ B → giveL l a n = some r →
    chain B p r = true ∧ r.length ≤ l.length + 1 ∧ (∀ q, isIn r q = (isIn l q || decide (a ≤ q ∧ q < a + n))) ∧ ∀ q, a ≤ q → q < a + n → isIn l q = false
  | [], p, a, n, r, _, h1, h2, h3, h4, h => by
    obtain rfl := Option.some.inj h
    refine ⟨chain_mk (x := ⟨a, n⟩) ⟨h1, h2, h3, h4⟩ rfl, by simp, fun q => ?_, fun q _ _ => rfl⟩
    rw [isIn_cons]
    show (inE q (⟨a, n⟩ : S49) || false) = (false || decide (a ≤ q ∧ q < a + n))
    rw [Bool.or_false, Bool.false_or]
    rfl
  | x :: l, p, a, n, r, hc, h1, h2, h3, h4, h => by
    obtain ⟨g1, g2⟩ := chain_cons hc
    rw [giveL] at h
    by_cases c1 : x.f0 + x.f1 < a
    · rw [if_pos c1] at h
      obtain ⟨r', hr', rfl⟩ := Option.map_eq_some_iff.mp h
      obtain ⟨i1, i2, i3, i4⟩ := giveL_some g2 c1 h2 h3 h4 hr'
      refine ⟨chain_mk g1 i1, by simp only [List.length_cons]; omega, fun q => ?_, fun q q1 q2 => ?_⟩
      · rw [isIn_cons, isIn_cons, i3 q, Bool.or_assoc]
      · rw [isIn_cons, inE_f (by omega), i4 q q1 q2]; rfl
    rw [if_neg c1] at h
    by_cases c2 : x.f0 > a + n
    · rw [if_pos c2] at h
      obtain rfl := Option.some.inj h
      refine ⟨chain_mk (x := ⟨a, n⟩) ⟨h1, h2, h3, h4⟩ (chain_mk ⟨c2, g1.2⟩ g2), by simp, fun q => ?_, fun q q1 q2 => ?_⟩
      · rw [isIn_cons]
        show (inE q (⟨a, n⟩ : S49) || isIn (x :: l) q) = _
        rw [Bool.or_comm]
        rfl
      · rw [isIn_cons, inE_f (by omega), isIn_low g2 (by omega)]; rfl
    rw [if_neg c2] at h
    by_cases c3 : x.f0 + x.f1 = a
    · rw [if_pos c3] at h
      obtain ⟨i1, i2, i3, i4⟩ := giveL_some (chain_low (q := p) (by omega) g2) g1.1 g1.2.1 (by omega) (by omega) h
      refine ⟨i1, by simp only [List.length_cons]; omega, fun q => ?_, fun q q1 q2 => ?_⟩
      · rw [i3 q, isIn_cons]
        by_cases hq : x.f0 ≤ q ∧ q < x.f0 + (x.f1 + n)
        · rw [decide_eq_true hq, Bool.or_true]
          by_cases hx : x.f0 ≤ q ∧ q < x.f0 + x.f1
          · rw [inE_t hx]; simp
          · rw [decide_eq_true (show a ≤ q ∧ q < a + n by omega)]; simp
        · rw [decide_eq_false hq, inE_f (by omega), decide_eq_false (show ¬ (a ≤ q ∧ q < a + n) by omega)]; simp
      · rw [isIn_cons, inE_f (by omega), i4 q (by omega) (by omega)]; rfl
    rw [if_neg c3] at h
    by_cases c4 : x.f0 = a + n
    · rw [if_pos c4] at h
      obtain ⟨i1, i2, i3, i4⟩ := giveL_some (chain_low (q := p) (by omega) g2) h1 h2 (by omega) (by omega) h
      refine ⟨i1, by simp only [List.length_cons]; omega, fun q => ?_, fun q q1 q2 => ?_⟩
      · rw [i3 q, isIn_cons]
        by_cases hq : a ≤ q ∧ q < a + (n + x.f1)
        · rw [decide_eq_true hq, Bool.or_true]
          by_cases hx : x.f0 ≤ q ∧ q < x.f0 + x.f1
          · rw [inE_t hx]; simp
          · rw [decide_eq_true (show a ≤ q ∧ q < a + n by omega)]; simp
        · rw [decide_eq_false hq, inE_f (by omega), decide_eq_false (show ¬ (a ≤ q ∧ q < a + n) by omega)]; simp
      · rw [isIn_cons, inE_f (by omega), i4 q (by omega) (by omega)]; rfl
    rw [if_neg c4] at h
    cases h
theorem giveL_none {B : Int} : ∀ {l : List S49} {p a n : Int}, chain B p l = true → p < a → 0 ≤ a → 1 ≤ n → a + n ≤ B → giveL l a n = none → ∃ q, a ≤ q ∧ q < a + n ∧ isIn l q = true
  | [], p, a, n, _, _, _, _, _, h => by cases h
  | x :: l, p, a, n, hc, h1, h2, h3, h4, h => by
    obtain ⟨g1, g2⟩ := chain_cons hc
    rw [giveL] at h
    by_cases c1 : x.f0 + x.f1 < a
    · rw [if_pos c1] at h
      obtain ⟨q, q1, q2, q3⟩ := giveL_none g2 c1 h2 h3 h4 (Option.map_eq_none_iff.mp h)
      exact ⟨q, q1, q2, by rw [isIn_cons, q3, Bool.or_true]⟩
    rw [if_neg c1] at h
    by_cases c2 : x.f0 > a + n
    · rw [if_pos c2] at h; cases h
    rw [if_neg c2] at h
    by_cases c3 : x.f0 + x.f1 = a
    · rw [if_pos c3] at h
      obtain ⟨q, q1, q2, q3⟩ := giveL_none (chain_low (q := p) (by omega) g2) g1.1 g1.2.1 (by omega) (by omega) h
      have hq : x.f0 + x.f1 < q := by
        rcases Int.lt_or_le (x.f0 + x.f1) q with hh | hh
        · exact hh
        · rw [isIn_low g2 hh] at q3; cases q3
      exact ⟨q, by omega, by omega, by rw [isIn_cons, q3, Bool.or_true]⟩
    rw [if_neg c3] at h
    by_cases c4 : x.f0 = a + n
    · rw [if_pos c4] at h
      obtain ⟨q, q1, q2, q3⟩ := giveL_none (chain_low (q := p) (by omega) g2) h1 h2 (by omega) (by omega) h
      rw [isIn_low g2 (by omega)] at q3
      cases q3
    · rcases Int.lt_or_le x.f0 a with hx | hx
      · exact ⟨a, by omega, by omega, by rw [isIn_cons, inE_t (by omega)]; rfl⟩
      · exact ⟨x.f0, by omega, by omega, by rw [isIn_cons, inE_t (by omega)]; rfl⟩

theorem chg_all (fr : Bool) (N : Nat) (hN : N ≤ 400) (a n : Int) (ha : 0 ≤ a) (hn : a + n ≤ N) (d : Nat) : ∀ (i : Nat) (f : Int → Bool), (i : Int) + d = n → (∀ q : Int, a + i ≤ q → q < a + n → f q = !fr) →
    Ev (fun k => impl_Free_changed.chg fr a n k (i : Int) (bm N f)) (some (bm N (fun q => if a + i ≤ q ∧ q < a + n then fr else f q))) := by
  induction d with
  | zero =>
    intro i f hi _
    have e : bm N (fun q => if a + i ≤ q ∧ q < a + n then fr else f q) = bm N f := bm_congr (fun q _ _ => if_neg (by omega))
    rw [e]
    exact Ev.step (fun k => by rw [impl_Free_changed.chg, if_neg (by omega)]) (Ev.now _)
  | succ d ih =>
    intro i f hi h
    have hj : (a + i).toNat < N := by omega
    have e0 : (((a + i).toNat : Nat) : Int) = a + i := by omega
    have H := ih (i + 1) (fun q => if q = (((a + i).toNat : Nat) : Int) then fr else f q) (by omega) (fun q h1 h2 => by rw [if_neg (by omega)]; exact h q (by omega) h2)
    have e : bm N (fun q => if a + ((i + 1 : Nat) : Int) ≤ q ∧ q < a + n then fr else (fun q => if q = (((a + i).toNat : Nat) : Int) then fr else f q) q) = bm N (fun q => if a + i ≤ q ∧ q < a + n then fr else f q) := bm_congr (fun q _ _ => by
      show (if a + ((i + 1 : Nat) : Int) ≤ q ∧ q < a + n then fr else if q = (((a + i).toNat : Nat) : Int) then fr else f q) = _
      rw [e0]
      by_cases h1 : q = a + i
      · rw [if_neg (by omega), if_pos h1, if_pos (by omega)]
      · rw [if_neg h1]
        by_cases h2 : a + ((i + 1 : Nat) : Int) ≤ q ∧ q < a + n
        · rw [if_pos h2, if_pos (by omega)]
        · rw [if_neg h2, if_neg (by omega)])
    rw [e] at H
    have hv : rdOf false (bm N f) (a + i) = !fr := by unfold rdOf; rw [bm_get _ _ _ hj, e0]; exact h _ (by omega) (by omega)
    exact Ev.step (fun k => by rw [impl_Free_changed.chg, if_pos (by omega), addw _ _ (by omega) (by omega), if_pos (by omega), if_pos (by rw [bm_len]; omega), hv, if_neg (by cases fr <;> decide), inc i (by omega), bm_set N f _ fr hj]) H
theorem chg_none (fr : Bool) (N : Nat) (hN : N ≤ 400) (a n : Int) (ha : 0 ≤ a) (hn : a + n ≤ N) (q : Int) (hq : q < a + n) (d : Nat) : ∀ (i : Nat) (f : Int → Bool), (i : Int) + d = n → a + i ≤ q → f q = fr →
    Ev (fun k => impl_Free_changed.chg fr a n k (i : Int) (bm N f)) none := by
  induction d with
  | zero => intro i f hi h1 _; omega
  | succ d ih =>
    intro i f hi h1 h2
    have hj : (a + i).toNat < N := by omega
    have e0 : (((a + i).toNat : Nat) : Int) = a + i := by omega
    have hv : rdOf false (bm N f) (a + i) = f (a + i) := by unfold rdOf; rw [bm_get _ _ _ hj, e0]
    by_cases h3 : f (a + i) = fr
    · exact Ev.step (fun k => by rw [impl_Free_changed.chg, if_pos (by omega), addw _ _ (by omega) (by omega), if_pos (by omega), if_pos (by rw [bm_len]; omega), hv, if_pos h3]) (Ev.now _)
    · have hne : q ≠ a + i := fun e => h3 (e ▸ h2)
      exact Ev.step (fun k => by rw [impl_Free_changed.chg, if_pos (by omega), addw _ _ (by omega) (by omega), if_pos (by omega), if_pos (by rw [bm_len]; omega), hv, if_neg h3, inc i (by omega), bm_set N f _ fr hj]) (ih (i + 1) (fun q => if q = (((a + i).toNat : Nat) : Int) then fr else f q) (by omega) (by omega) (by rw [if_neg (by omega)]; exact h2))

theorem l5Extent_f (a l B : Int) (hB : 0 ≤ B ∧ B ≤ 400) : spec_l5Extent.f a l B = some (decide (0 ≤ a ∧ 1 ≤ l ∧ a + l ≤ B)) := by
  unfold spec_l5Extent.f
  by_cases h1 : a ≥ 0
  · rw [if_pos h1, l1In_tells, Option.bind_some]
    by_cases h2 : l ≥ 1 ∧ l ≤ B
    · rw [if_pos (decide_eq_true h2), subw B l (by omega) (by omega)]; congr 1; rw [decide_eq_decide]; omega
    · rw [if_neg (by rw [decide_eq_true_eq]; exact h2)]; congr 1; exact (decide_eq_false (by omega)).symm
  · rw [if_neg h1]; congr 1; exact (decide_eq_false (by omega)).symm
theorem fits_chain {B q : Int} {l : List S49} (hB : B ≤ 400) (h : chain B q l = true) : fits l := fun x hx => by have := chain_mem h x hx; omega
theorem sortE_len (l : List S49) : (sortE l).length = l.length := (sortE_perm l).length_eq
theorem give_put (B : Int) (p s : List S49) (r : Int × List S49 × List S49 × Bool) (hl : p.length ≤ 60) (a n : Int) (ha : 0 ≤ a ∧ 1 ≤ n ∧ a + n ≤ 400) (d : Nat) : ∀ (i : Nat) (out : List S49), i + d = p.length → out.length ≤ i + 1 → (∀ x ∈ p.drop i, a + n < x.f0 ∧ 1 ≤ x.f1 ∧ x.f0 + x.f1 ≤ 400) →
    Ev (fun k => spec_GiveRoom.j2 k (out ++ p.drop i) B p s) r → Ev (fun k => spec_GiveRoom.l0 k out true p (p.length : Int) (i : Int) B p s a n) r := by
  induction d with
  | zero =>
    intro i out hi _ _ h
    rw [List.drop_eq_nil_of_le (by omega), List.append_nil] at h
    exact Ev.step (fun k => by rw [spec_GiveRoom.l0, if_neg (by omega), if_pos rfl]) h
  | succ d ih =>
    intro i out hi ho hx h
    have hlt : i < p.length := by omega
    rw [List.drop_eq_getElem_cons hlt] at hx h
    have hxi := hx p[i] List.mem_cons_self
    refine Ev.step (fun k => by rw [spec_GiveRoom.l0, if_pos (by omega), if_pos (by omega), if_pos (by omega), rd_extent, gat z49 hlt, addw p[i].f0 p[i].f1 (by omega) (by omega), if_neg (by omega), addw a n (by omega) (by omega), if_pos (by omega), if_pos rfl, if_pos (by omega), inc i (by omega)]) (ih (i + 1) (out ++ [p[i]]) (by omega) (by rw [List.length_append]; simp; omega) (fun x hxx => hx x (List.mem_cons_of_mem _ hxx)) ?_)
    rw [List.append_assoc]
    exact h
theorem give_l (B : Int) (p s : List S49) (r : Int × List S49 × List S49 × Bool) (hB : B ≤ 400) (hl : p.length ≤ 60) (d : Nat) : ∀ (i : Nat) (out : List S49) (a n q : Int), i + d = p.length → out.length ≤ i → chain B q (p.drop i) = true → (0 ≤ a ∧ 1 ≤ n ∧ a + n ≤ B) →
    (∀ l, giveL (p.drop i) a n = some l → Ev (fun k => spec_GiveRoom.j2 k (out ++ l) B p s) r) → (giveL (p.drop i) a n = none → r = (0, ([] : List S49), ([] : List S49), false)) → Ev (fun k => spec_GiveRoom.l0 k out false p (p.length : Int) (i : Int) B p s a n) r := by
  induction d with
  | zero =>
    intro i out a n q hi ho _ _ h _
    rw [List.drop_eq_nil_of_le (by omega)] at h
    exact Ev.step (fun k => by rw [spec_GiveRoom.l0, if_neg (by omega), if_neg (by decide), if_pos (by omega)]) (h _ rfl)
  | succ d ih =>
    intro i out a n q hi ho hc ha h hN
    have hlt : i < p.length := by omega
    rw [List.drop_eq_getElem_cons hlt] at hc h hN
    obtain ⟨g1, g2⟩ := chain_cons hc
    rw [giveL] at h hN
    by_cases c1 : p[i].f0 + p[i].f1 < a
    · rw [if_pos c1] at h hN
      refine Ev.step (fun k => by rw [spec_GiveRoom.l0, if_pos (by omega), if_pos (by omega), if_pos (by omega), rd_extent, gat z49 hlt, addw p[i].f0 p[i].f1 (by omega) (by omega), if_pos c1, if_pos (by omega), inc i (by omega)]) (ih (i + 1) (out ++ [p[i]]) a n _ (by omega) (by rw [List.length_append]; simp; omega) g2 ha (fun l hl' => ?_) (fun hn' => hN (by rw [hn']; rfl)))
      rw [List.append_assoc]
      exact h _ (by rw [hl']; rfl)
    rw [if_neg c1] at h hN
    by_cases c2 : p[i].f0 > a + n
    · rw [if_pos c2] at h hN
      refine Ev.step (fun k => by rw [spec_GiveRoom.l0, if_pos (by omega), if_pos (by omega), if_pos (by omega), rd_extent, gat z49 hlt, addw p[i].f0 p[i].f1 (by omega) (by omega), if_neg c1, addw a n (by omega) (by omega), if_pos c2, if_neg (by decide), if_pos (by omega), Option.bind_some, if_pos (by rw [List.length_append]; simp; omega), inc i (by omega)]) (give_put B p s r hl a n (by omega) d (i + 1) (out ++ [⟨a, n⟩] ++ [p[i]]) (by omega) (by rw [List.length_append, List.length_append]; simp; omega) (fun x hx => ?_) ?_)
      · have hm := chain_mem g2 x hx
        have hlow : p[i].f0 + p[i].f1 < x.f0 := by
          rcases Int.lt_or_le (p[i].f0 + p[i].f1) x.f0 with hh | hh
          · exact hh
          · have := isIn_low g2 hh
            have h2 : isIn (p.drop (i + 1)) x.f0 = true := by unfold isIn; exact List.any_eq_true.mpr ⟨x, hx, inE_t (by omega)⟩
            rw [this] at h2; cases h2
        omega
      · rw [List.append_assoc, List.append_assoc]
        exact h _ rfl
    rw [if_neg c2] at h hN
    by_cases c3 : p[i].f0 + p[i].f1 = a
    · rw [if_pos c3] at h hN
      exact Ev.step (fun k => by rw [spec_GiveRoom.l0, if_pos (by omega), if_pos (by omega), if_pos (by omega), rd_extent, gat z49 hlt, addw p[i].f0 p[i].f1 (by omega) (by omega), if_neg c1, addw a n (by omega) (by omega), if_neg c2, if_pos c3, addw p[i].f1 n (by omega) (by omega), inc i (by omega)]) (ih (i + 1) out p[i].f0 (p[i].f1 + n) _ (by omega) (by omega) g2 (by omega) h hN)
    rw [if_neg c3] at h hN
    by_cases c4 : p[i].f0 = a + n
    · rw [if_pos c4] at h hN
      exact Ev.step (fun k => by rw [spec_GiveRoom.l0, if_pos (by omega), if_pos (by omega), if_pos (by omega), rd_extent, gat z49 hlt, addw p[i].f0 p[i].f1 (by omega) (by omega), if_neg c1, addw a n (by omega) (by omega), if_neg c2, if_neg c3, if_pos c4, addw n p[i].f1 (by omega) (by omega), inc i (by omega)]) (ih (i + 1) out a (n + p[i].f1) _ (by omega) (by omega) g2 (by omega) h hN)
    rw [if_neg c4] at h hN
    rw [hN rfl]
    exact Ev.step (fun k => by rw [spec_GiveRoom.l0, if_pos (by omega), if_pos (by omega), if_pos (by omega), rd_extent, gat z49 hlt, addw p[i].f0 p[i].f1 (by omega) (by omega), if_neg c1, addw a n (by omega) (by omega), if_neg c2, if_neg c3, if_neg c4]) (Ev.now _)
theorem both_GiveRoom (B : Int) (p s : List S49) (a n : Int) (hB : -9223372036854775808 ≤ B ∧ B < 9223372036854775808) (hl : p.length < 2 ^ 30) (hw : fits p) (ha : -9223372036854775808 ≤ a ∧ a < 9223372036854775808) :
    ∃ (b : Int) (x y : List S49) (ok : Bool), x.length < 2 ^ 40 ∧ y.length < 2 ^ 40 ∧ Ev (fun k => spec_GiveRoom.f k B p s a n) (b, x, y, ok) ∧ Ev (fun k => impl_GiveRoom.f k B p s a n) (b, x, y, ok) := by
  have h1 := spec_goodF B p s hB hl hw
  have h2 := impl_goodF B p s hl hw
  unfold spec_GiveRoom.f impl_GiveRoom.f
  cases hg : goodF B p s with
  | false =>
    rw [hg] at h1 h2
    exact ⟨0, [], [], false, by simp, by simp, Ev.bind h1 (evn (by decide) (Ev.step (fun k => by rw [spec_GiveRoom.j0, if_pos rfl]) (Ev.now _))), Ev.bind h2 (evn (by decide) (Ev.now _))⟩
  | true =>
    rw [hg] at h1 h2
    obtain ⟨g1, g2, g3, rfl⟩ := goodF_chain hg
    have hx : ∀ x ∈ p, 0 ≤ x.f0 ∧ 1 ≤ x.f1 ∧ x.f0 + x.f1 ≤ B := fun x hxx => chain_mem g1 x hxx
    by_cases hc : 0 ≤ a ∧ 1 ≤ n ∧ a + n ≤ B
    case neg =>
      refine ⟨0, [], [], false, by simp, by simp, Ev.bind h1 (evp rfl (ev_to_some (l5Extent_f a n B (by omega)) ?_)), Ev.bind h2 (evp rfl (ev_to_some (isExtent_f a n B (by omega) ha) (evn (by rw [decide_eq_true_eq]; exact hc) (Ev.now _))))⟩
      rw [decide_eq_false hc]
      exact Ev.step (fun k => by rw [spec_GiveRoom.j0, if_pos (by decide)]) (Ev.now _)
    have hn : ((B.toNat : Nat) : Int) = B := by omega
    have e2 := isfree B p (sortE p) (by omega) g3 hx
    have dn : (((n.toNat : Nat) : Int)) = n := by omega
    have gl := fun r hs hN => give_l B p (sortE p) r (by omega) g3 p.length 0 [] a n (-1) (by omega) (by simp) (by rw [List.drop_zero]; exact g1) hc hs hN
    simp only [List.drop_zero, List.nil_append] at gl
    cases hy : giveL p a n with
    | none =>
      obtain ⟨q, q1, q2, q3⟩ := giveL_none g1 (by omega) hc.1 hc.2.1 hc.2.2 hy
      have ec := chg_none true B.toNat (by omega) a n hc.1 (by omega) q q2 n.toNat 0 (isIn p) (by omega) (by omega) q3
      refine ⟨0, [], [], false, by simp, by simp, Ev.bind h1 (evp rfl (ev_to_some (l5Extent_f a n B (by omega)) ?_)), Ev.bind h2 (evp rfl (ev_to_some (isExtent_f a n B (by omega) ha) (evp (decide_eq_true hc) ?_)))⟩
      · rw [decide_eq_true hc]
        exact Ev.step (fun k => by rw [spec_GiveRoom.j0, if_neg (by decide)]; rfl) (gl _ (fun l hl' => by rw [hy] at hl'; cases hl') (fun _ => rfl))
      · refine Ev.bind (a := (0, ([] : List S49), ([] : List S49), false)) ?_ (Ev.now _)
        unfold impl_Free_changed.f
        refine Ev.bind e2 (Ev.bind ec (Ev.now _))
    | some L =>
      obtain ⟨hcc, hcl, hin, hfree⟩ := giveL_some g1 (by omega) hc.1 hc.2.1 hc.2.2 hy
      have hcf := fits_chain (by omega) hcc
      have es := bysize L (by omega)
      have k1 := spec_goodF B L (sortE L) hB (by omega) hcf
      have k2 := impl_goodF B L (sortE L) (by omega) hcf
      have ec := chg_all true B.toNat (by omega) a n hc.1 (by omega) n.toNat 0 (isIn p) (by omega) (fun q q1 q2 => hfree q (by omega) q2)
      have hcc2 := hcc
      rw [← hn] at hcc2
      have em := merged_chain (bitP (bm B.toNat (fun q => if a + ((0 : Nat) : Int) ≤ q ∧ q < a + n then true else isIn p q))) B.toNat (by omega) _ (-1) (by omega) hcc2 (fun i h0 h3 => by
        unfold bitP
        rw [if_pos ⟨h0, by rw [bm_len]; exact h3⟩, hin i]
        unfold rdOf
        rw [bm_get _ _ _ (by omega), Int.toNat_of_nonneg h0]
        congr 1
        by_cases hr : a ≤ i ∧ i < a + n
        · rw [if_pos (by omega), decide_eq_true hr]; simp
        · rw [if_neg (by omega), decide_eq_false hr]; simp)
      rw [hn] at em
      have ef : impl_freeOf.f B L = some (sortE L) := by unfold impl_freeOf.f; rw [if_pos (by omega)]
      have sOf : Ev (fun k => spec_l5Of.f k B L) (B, L, sortE L) := by
        unfold spec_l5Of.f
        exact ev_some (evp (by simp; omega) (Ev.bind es (Ev.now _)))
      cases hgg : goodF B L (sortE L) with
      | false =>
        rw [hgg] at k1 k2
        refine ⟨0, [], [], false, by simp, by simp, Ev.bind h1 (evp rfl (ev_to_some (l5Extent_f a n B (by omega)) ?_)), Ev.bind h2 (evp rfl (ev_to_some (isExtent_f a n B (by omega) ha) (evp (decide_eq_true hc) ?_)))⟩
        · rw [decide_eq_true hc]
          refine Ev.step (fun k => by rw [spec_GiveRoom.j0, if_neg (by decide)]; rfl) (gl _ (fun l hl' => ?_) (fun hn' => absurd (hy.symm.trans hn') (by simp)))
          obtain rfl := Option.some.inj (hy.symm.trans hl')
          refine Ev.step (fun k => by rw [spec_GiveRoom.j2]) (Ev.bind sOf (Ev.bind k1 ?_))
          exact evn (by decide) (Ev.now _)
        · refine Ev.bind (a := (0, ([] : List S49), ([] : List S49), false)) ?_ (Ev.now _)
          unfold impl_Free_changed.f
          refine Ev.bind e2 (Ev.bind ec (Ev.bind em (ev_to_some ef (Ev.bind k2 ?_))))
          exact evn (by decide) (Ev.now _)
      | true =>
        rw [hgg] at k1 k2
        refine ⟨B, L, sortE L, true, by omega, by rw [sortE_len]; omega, Ev.bind h1 (evp rfl (ev_to_some (l5Extent_f a n B (by omega)) ?_)), Ev.bind h2 (evp rfl (ev_to_some (isExtent_f a n B (by omega) ha) (evp (decide_eq_true hc) ?_)))⟩
        · rw [decide_eq_true hc]
          refine Ev.step (fun k => by rw [spec_GiveRoom.j0, if_neg (by decide)]; rfl) (gl _ (fun l hl' => ?_) (fun hn' => absurd (hy.symm.trans hn') (by simp)))
          obtain rfl := Option.some.inj (hy.symm.trans hl')
          exact Ev.step (fun k => by rw [spec_GiveRoom.j2]) (Ev.bind sOf (Ev.bind k1 (evp rfl (Ev.now _))))
        · refine Ev.bind (a := (B, L, sortE L, true)) ?_ (Ev.now _)
          unfold impl_Free_changed.f
          refine Ev.bind e2 (Ev.bind ec (Ev.bind em (ev_to_some ef (Ev.bind k2 (evp rfl (Ev.now _))))))
theorem FnExactGiveRoom : laws_FnExactGiveRoom.PureG := by
  intro b xs ys a n hb hx hy ha hn
  refine Ev.rounds ?_
  obtain ⟨r, h1, h2⟩ := sz_free b xs ys hx.1 hy.1 1048576 (by omega) (by omega)
  have hbb := bounds_i64 hb
  have haa := bounds_i64 ha
  have hml := maxLen_lt
  unfold laws_FnExactGiveRoom.f
  refine ev_to_some h1 ?_
  by_cases hr : r < 0
  · exact evp hr (Ev.now _)
  · obtain ⟨hx0, hx1, hy1⟩ : xs.length < 2 ^ 30 ∧ xs.length < 2 ^ 40 ∧ ys.length < 2 ^ 40 := by omega
    have T := to_free b xs ys hx1 hy1
    have E : laws_toExtent.f a n = some (a, n) := rfl
    have Q := eq_free b (xs.map convExtent) (ys.map convExtent) (convE_len xs hx1) (convE_len ys hy1)
    have hl : (xs.map convExtent).length < 2 ^ 30 := by rw [List.length_map]; omega
    obtain ⟨rb, x, y, ok, hxl, hyl, e1, e2⟩ := both_GiveRoom b _ (ys.map convExtent) a n (by omega) hl (fits_conv xs hx.2) (by omega)
    have QX := eq_free rb x y hxl hyl
    obtain ⟨us, vs, m1, _, _, _, _⟩ := marked_free b (xs.map convExtent) (ys.map convExtent) (convE_len xs hx1) (convE_len ys hy1)
    obtain ⟨us2, vs2, m2, _, _, m4, m5⟩ := marked_free rb x y hxl hyl
    have H := held_free rb _ _ us2 vs2 m4 m5
    refine evn hr (Ev.bind T (ev_to_some E (Ev.bind e1 (Ev.bind T (ev_to_some E (Ev.bind e2 (Ev.bind QX (evp rfl ?_))))))))
    rw [bne_self_eq_false]
    refine Ev.step (fun k => by rw [laws_FnExactGiveRoom.j0, if_neg (by decide)]) (Ev.bind T (Ev.bind Q (evp rfl (Ev.bind m1 (evn (nn _) (Ev.bind QX (evp rfl ?_)))))))
    rw [bne_self_eq_false]
    refine Ev.step (fun k => by rw [laws_FnExactGiveRoom.j1, if_neg (by decide)]) (Ev.bind m2 (Ev.bind H (evn (nn _) (evp rfl (Ev.bind T (ev_to_some E (Ev.bind e2 (Ev.bind QX (evp rfl ?_)))))))))
    rw [bne_self_eq_false]
    exact Ev.step (fun k => by rw [laws_FnExactGiveRoom.j2, if_neg (by decide)]) (Ev.bind H (evn (nn _) (evp rfl (Ev.now _))))

end Go.Proofs.Ytfhfaeeokibhaaa.Pure
