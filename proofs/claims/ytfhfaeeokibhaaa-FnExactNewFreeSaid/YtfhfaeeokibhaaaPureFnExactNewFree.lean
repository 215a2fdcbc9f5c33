/- The program's NewFree answers as the reference's at all numbers, and shares no memory; no condition. -/
import Derived.Test.YtfhfaeeokibhaaaQFnExactNewFreex4
import Derived.OpenShut
set_option linter.unusedVariables false
set_option linter.unusedSimpArgs false
namespace Go.Proofs.Ytfhfaeeokibhaaa.Pure
open Go.RowKit Go.Proofs.Ytfhfaeeokibhaaa.PFnExactNewFree Go.Proofs.YtfhfaeeokibhaaaW.PrintWords Go.Proofs.YtfhfaeeokibhaaaW.PrintLast Go.Proofs.YtfhfaeeokibhaaaW.PrintMore 

theorem wr64 (n : Nat) (h : n < 2 ^ 62) : wrap64 (n : Int) = (n : Int) := by unfold wrap64; omega
theorem wri (n : Int) (h : 0 ≤ n) (h1 : n < 2 ^ 62) : wrap64 n = n := by unfold wrap64; omega
theorem byte_of {x : Int} (h : (Lit.int .u8 x).wf = true) : ∃ n : Nat, n < 256 ∧ x = (n : Int) := by
  have := bounds_u8 h
  exact ⟨x.toNat, by omega, by omega⟩
theorem shr_nat (b j q : Nat) (hj : j ≤ 8) (hq : q = b / 2 ^ j) : shr .u8 (b : Int) (j : Int) = (q : Int) := by
  unfold shr
  rw [Int.toNat_natCast, Nat.min_eq_left (show j ≤ IntKind.bits .u8 from hj), hq]
  simp
theorem dbl (x : Nat) (hx : x < 256) : wrap64 ((x : Int) * 2) = ((2 * x : Nat) : Int) := by unfold wrap64; omega
theorem inc (j : Nat) (hj : j < 2 ^ 62) : wrap64 ((j : Int) + 1) = ((j + 1 : Nat) : Int) := by unfold wrap64; omega
theorem nn (n : Nat) : ¬ ((n : Int) < 0) := by omega

theorem within_tells (a b c : Int) : impl_within.f a b c = some (decide (a ≥ b ∧ a ≤ c)) := by
  unfold impl_within.f
  split
  · rename_i h; simp [h]
  · rename_i h; simp [h]
theorem l1In_tells (a b c : Int) : spec_l1In.f a b c = some (decide (a ≥ b ∧ a ≤ c)) := by
  unfold spec_l1In.f
  split
  · rename_i h; simp [h]
  · rename_i h; simp [h]

theorem ev_of {α : Type} {g : Nat → Option α} {r : α} (K : Nat) (h : ∀ k, K < k → g k = some r) : Ev g r := ⟨K + 1, fun k hk => h k (by omega)⟩
theorem evp {α : Type} {c : Prop} [Decidable c] {f g : Nat → Option α} {r : α} (h : c) (k : Ev f r) : Ev (fun n => if c then f n else g n) r := Ev.congr (fun _ => if_pos h) k
theorem evn {α : Type} {c : Prop} [Decidable c] {f g : Nat → Option α} {r : α} (h : ¬ c) (k : Ev g r) : Ev (fun n => if c then f n else g n) r := Ev.congr (fun _ => if_neg h) k
theorem ev_some {α β : Type} {a : α} {f : Nat → α → Option β} {r : β} (h : Ev (fun n => f n a) r) : Ev (fun n => (some a).bind (f n)) r := h
theorem ev_to_some {α β : Type} {o : Option α} {a : α} {f : Nat → α → Option β} {r : β} (ho : o = some a) (h : Ev (fun n => f n a) r) : Ev (fun n => o.bind (f n)) r := by subst ho; exact h
theorem maxLen_lt : maxLen < 2 ^ 63 := by decide

theorem gset {α : Type} (z : α) (xs : List α) (i j : Nat) (v : α) (hi : i < xs.length) : (xs.set i v).getD j z = if j = i then v else xs.getD j z := by
  simp only [List.getD_eq_getElem?_getD, List.getElem?_set]
  by_cases h : i = j
  · subst h; simp [hi]
  · rw [if_neg h, if_neg (fun e => h e.symm)]
theorem gext {α : Type} (z : α) {l m : List α} (hl : l.length = m.length) (h : ∀ j, j < l.length → l.getD j z = m.getD j z) : l = m := by
  apply List.ext_getElem hl
  intro j h1 h2
  have := h j h1
  simpa [List.getD_eq_getElem?_getD, h1, h2] using this
theorem rdOf_nat {α : Type} (z : α) (xs : List α) (i : Nat) : rdOf z xs (i : Int) = xs.getD i z := by unfold rdOf; rw [Int.toNat_natCast]
theorem gmem {α : Type} (z : α) {xs : List α} {i : Nat} (h : i < xs.length) : xs.getD i z ∈ xs := by
  rw [List.getD_eq_getElem?_getD]; simp [h]
/-- what a count of sizes leaves -/
def Left (B r : Int) : Prop := r < 0 ∨ 0 ≤ r ∧ r ≤ B

theorem rd_extent (xs : List S49) (i : Nat) : rd_T49 xs (i : Int) = xs.getD i z49 := by unfold rd_T49; rw [Int.toNat_natCast]
theorem eq_extents_l (xs : List S49) (hl : xs.length < 2 ^ 40) (d : Nat) : ∀ (i : Nat), i + d = xs.length → Ev (fun k => laws_eqExtentS.l0 k xs xs (i : Int)) true := by
  induction d with
  | zero => intro i hi; exact Ev.step (fun k => by simp only [laws_eqExtentS.l0]; rw [if_neg (by omega)]) (Ev.now _)
  | succ d ih =>
    intro i hi
    exact Ev.step (fun k => by
      simp only [laws_eqExtentS.l0, laws_eqExtent.f, if_true, Option.bind_some]
      rw [if_pos (by omega), if_pos (by omega), if_pos (by omega), inc i (by omega)]) (ih (i + 1) (by omega))
theorem eq_extents (xs : List S49) (hl : xs.length < 2 ^ 40) : Ev (fun k => laws_eqExtentS.f k xs xs) true := by
  unfold laws_eqExtentS.f
  exact evp rfl (eq_extents_l xs hl xs.length 0 (by omega))
theorem eq_free (b : Int) (xs ys : List S49) (hx : xs.length < 2 ^ 40) (hy : ys.length < 2 ^ 40) : Ev (fun k => laws_eqFree.f k b xs ys b xs ys) true :=
  evp rfl (Ev.bind (eq_extents xs hx) (evp rfl (Ev.bind (eq_extents ys hy) (evp rfl (Ev.now _)))))
theorem leE_trans (a b c : S49) (h1 : leE a b = true) (h2 : leE b c = true) : leE a c = true := by
  unfold leE at *
  rw [decide_eq_true_eq] at *
  omega
theorem leE_total (a b : S49) : (leE a b || leE b a) = true := by
  unfold leE
  rw [Bool.or_eq_true, decide_eq_true_eq, decide_eq_true_eq]
  omega
theorem leE_anti (a b : S49) (h1 : leE a b = true) (h2 : leE b a = true) : a = b := by
  unfold leE at *
  rw [decide_eq_true_eq] at *
  obtain ⟨a0, a1⟩ := a
  obtain ⟨b0, b1⟩ := b
  simp only at h1 h2
  have : a0 = b0 ∧ a1 = b1 := by omega
  rw [this.1, this.2]
theorem sortE_perm (l : List S49) : List.Perm (sortE l) l := by rw [sortE_eq]; exact List.mergeSort_perm l leE
theorem sortE_pair (l : List S49) : List.Pairwise (fun a b => leE a b = true) (sortE l) := by rw [sortE_eq]; exact List.pairwise_mergeSort leE_trans leE_total l
theorem sortE_uniq (l m : List S49) (hp : List.Perm m l) (hs : List.Pairwise (fun a b => leE a b = true) m) : m = sortE l :=
  List.Perm.eq_of_pairwise (fun a b _ _ h1 h2 => leE_anti a b h1 h2) hs (sortE_pair l) (hp.trans (sortE_perm l).symm)
theorem gat {α : Type} (z : α) {l : List α} {i : Nat} (h : i < l.length) : l.getD i z = l[i] := by rw [List.getD_eq_getElem?_getD, List.getElem?_eq_getElem h]; rfl
def insE (x : S49) : List S49 → List S49
  | [] => [x]
  | y :: l => if leE x y = true then x :: y :: l else y :: insE x l
theorem insE_perm (x : S49) : ∀ l : List S49, List.Perm (insE x l) (x :: l)
  | [] => List.Perm.refl _
  | y :: l => by
    rw [insE]
    split
    · exact List.Perm.refl _
    · exact ((insE_perm x l).cons y).trans (List.Perm.swap x y l)
theorem insE_pair (x : S49) : ∀ l : List S49, List.Pairwise (fun a b => leE a b = true) l → List.Pairwise (fun a b => leE a b = true) (insE x l)
  | [], _ => by rw [insE]; simp
  | y :: l, h => by
    rw [insE]
    split
    · rename_i hx
      refine List.Pairwise.cons (fun z hz => ?_) h
      rcases List.mem_cons.mp hz with rfl | hz
      · exact hx
      · exact leE_trans _ _ _ hx (List.rel_of_pairwise_cons h hz)
    · rename_i hx
      have hyx : leE y x = true := by
        have := leE_total x y
        rw [Bool.or_eq_true] at this
        exact this.resolve_left hx
      refine List.Pairwise.cons (fun z hz => ?_) (insE_pair x l (List.Pairwise.of_cons h))
      rcases List.mem_cons.mp ((insE_perm x l).mem_iff.mp hz) with rfl | hz
      · exact hyx
      · exact List.rel_of_pairwise_cons h hz
def cnt (x : S49) : List S49 → Nat
  | [] => 0
  | y :: l => if leE x y = true then 0 else cnt x l + 1
theorem insE_cnt (x : S49) : ∀ l : List S49, insE x l = l.take (cnt x l) ++ x :: l.drop (cnt x l)
  | [] => rfl
  | y :: l => by
    rw [insE, cnt]
    split
    · rfl
    · rw [insE_cnt x l]; rfl
theorem cnt_le (x : S49) : ∀ l : List S49, cnt x l ≤ l.length
  | [] => Nat.le_refl _
  | y :: l => by
    have := cnt_le x l
    rw [cnt]
    split
    · omega
    · simp only [List.length_cons]; omega
theorem cnt_before (x : S49) : ∀ (l : List S49) (i : Nat) (h : i < l.length), i < cnt x l → leE x l[i] = false
  | [], i, h, _ => by simp at h
  | y :: l, i, h, hi => by
    rw [cnt] at hi
    split at hi
    · omega
    · rename_i hx
      cases i with
      | zero => simpa using hx
      | succ i => exact cnt_before x l i (by simpa using h) (by omega)
theorem cnt_at (x : S49) : ∀ (l : List S49) (h : cnt x l < l.length), leE x l[cnt x l] = true
  | [], h => by simp [cnt] at h
  | y :: l, h => by
    by_cases hx : leE x y = true
    · have e : cnt x (y :: l) = 0 := by rw [cnt, if_pos hx]
      simp only [e]
      exact hx
    · have e : cnt x (y :: l) = cnt x l + 1 := by rw [cnt, if_neg hx]
      have h' : cnt x l < l.length := by rw [e] at h; simpa using h
      simp only [e]
      exact cnt_at x l h'
theorem less_f (y x : S49) : spec_l5Less.f y.f0 y.f1 x.f0 x.f1 = some (!(leE x y)) := by
  unfold spec_l5Less.f leE
  by_cases h1 : y.f1 < x.f1
  · rw [if_pos h1, decide_eq_false (by omega)]; rfl
  · rw [if_neg h1]
    by_cases h2 : y.f1 = x.f1
    · rw [if_pos h2]
      by_cases h3 : y.f0 < x.f0
      · rw [decide_eq_true h3, decide_eq_false (by omega)]; rfl
      · rw [decide_eq_false h3, decide_eq_true (by omega)]; rfl
    · rw [if_neg h2, decide_eq_true (by omega)]; rfl
theorem bysize1 (l : List S49) (out : List S49) (x : S49) (i : Nat) (r : List S49) (hl : l.length < 2 ^ 40) (ho : out.length < 2 ^ 40) (hr : Ev (fun k => spec_l5BySize.l0 k (insE x out) l (l.length : Int) ((i + 1 : Nat) : Int)) r) (hi : i < 2 ^ 41) (d : Nat) : ∀ (q : Nat), q + d = cnt x out →
    Ev (fun k => spec_l5BySize.l1 k out (q : Int) l (l.length : Int) (i : Int) x.f0 x.f1) r := by
  have hc := cnt_le x out
  induction d with
  | zero =>
    intro q hq
    have hq' : q = cnt x out := by omega
    have hins : insE x out = (([] : List S49) ++ out.take q) ++ [x] ++ out.drop q := by rw [hq', insE_cnt x out]; simp
    have hfin : ∀ k, spec_l5BySize.l1 (k + 1) out (q : Int) l (l.length : Int) (i : Int) x.f0 x.f1 = spec_l5BySize.l0 k (insE x out) l (l.length : Int) ((i + 1 : Nat) : Int) := fun k => by
      rw [spec_l5BySize.l1]
      have tl : (out.take q).length = q := by rw [List.length_take]; omega
      have dl : (out.drop q).length = out.length - q := List.length_drop
      by_cases hlt : (q : Int) < (out.length : Int)
      · have hq2 : q < out.length := by omega
        have hat := cnt_at x out (by omega)
        have hle : leE x out[q] = true := by simp only [hq']; exact hat
        rw [if_pos hlt, if_pos (by omega), rd_extent, gat z49 hq2, less_f, hle]
        simp only [Option.bind_some, Bool.not_true, Bool.false_eq_true, if_false, Int.toNat_natCast]
        rw [if_pos (by omega), if_pos (by simp only [List.length_nil]; omega), if_pos (by simp only [List.nil_append]; omega), if_pos (by simp only [List.nil_append, List.length_append, List.length_cons, List.length_nil]; omega), inc i (by omega), hins]
      · rw [if_neg hlt, if_pos (by omega), if_pos (by omega)]
        simp only [Option.bind_some, Int.toNat_natCast]
        rw [if_pos (by simp only [List.length_nil]; omega), if_pos (by simp only [List.nil_append]; omega), if_pos (by simp only [List.nil_append, List.length_append, List.length_cons, List.length_nil]; omega), inc i (by omega), hins]
    exact Ev.step hfin hr
  | succ d ih =>
    intro q hq
    have hq2 : q < out.length := by omega
    have hle := cnt_before x out q hq2 (by omega)
    refine Ev.step (fun k => ?_) (ih (q + 1) (by omega))
    rw [spec_l5BySize.l1, if_pos (by omega), if_pos (by omega), rd_extent, gat z49 hq2, less_f, hle]
    simp only [Option.bind_some, Bool.not_false, if_true]
    rw [inc q (by omega)]
theorem bysize0 (l : List S49) (hl : l.length < 2 ^ 30) (d : Nat) : ∀ (i : Nat) (out : List S49), i + d = l.length → out.length = i →
    ∃ r, Ev (fun k => spec_l5BySize.l0 k out l (l.length : Int) (i : Int)) r ∧ List.Perm r (out ++ l.drop i) ∧ (List.Pairwise (fun a b => leE a b = true) out → List.Pairwise (fun a b => leE a b = true) r) := by
  induction d with
  | zero =>
    intro i out hi ho
    exact ⟨out, Ev.step (fun k => by rw [spec_l5BySize.l0, if_neg (by omega)]) (Ev.now _), by rw [List.drop_eq_nil_of_le (by omega), List.append_nil], fun h => h⟩
  | succ d ih =>
    intro i out hi ho
    have hlt : i < l.length := by omega
    have hlen : (insE l[i] out).length = i + 1 := by rw [(insE_perm l[i] out).length_eq, List.length_cons]; omega
    obtain ⟨r, h1, h2, h3⟩ := ih (i + 1) (insE l[i] out) (by omega) hlen
    refine ⟨r, Ev.step (fun k => ?_) (bysize1 l out l[i] i r (by omega) (by omega) h1 (by omega) (cnt l[i] out) 0 (by omega)), ?_, fun h => h3 (insE_pair _ _ h)⟩
    · rw [spec_l5BySize.l0, if_pos (by omega), if_pos (by omega), if_pos (by omega), rd_extent, gat z49 hlt]
      rfl
    · rw [List.drop_eq_getElem_cons hlt]
      exact h2.trans (((insE_perm l[i] out).append_right _).trans List.perm_middle.symm)
theorem bysize (l : List S49) (hl : l.length < 2 ^ 30) : Ev (fun k => spec_l5BySize.f k l) (sortE l) := by
  obtain ⟨r, h1, h2, h3⟩ := bysize0 l hl l.length 0 [] (by omega) rfl
  rw [List.drop_zero, List.nil_append] at h2
  rw [← sortE_uniq l r h2 (h3 List.Pairwise.nil)]
  exact h1

theorem mark_extents_l (m : Nat) (hm : m < 2 ^ 44) (d : Nat) : ∀ (xs : List S49) (i : Nat), i + d = xs.length → xs.length < 2 ^ 40 → (∀ j, j < i → xs.getD j z49 = ⟨((m + 2 * j : Nat) : Int), ((m + 2 * j + 1 : Nat) : Int)⟩) →
    ∃ ys, Ev (fun k => laws_markExtentS.l0 k xs ((m + 2 * i : Nat) : Int) (i : Int)) (((m + 2 * xs.length : Nat) : Int), ys) ∧ ys.length = xs.length ∧ ∀ j, j < xs.length → ys.getD j z49 = ⟨((m + 2 * j : Nat) : Int), ((m + 2 * j + 1 : Nat) : Int)⟩ := by
  induction d with
  | zero =>
    intro xs i hi _ hxs
    refine ⟨xs, Ev.step (fun k => by rw [laws_markExtentS.l0, if_neg (by omega)]) (by rw [show i = xs.length by omega]; exact Ev.now _), rfl, fun j hj => hxs j (by omega)⟩
  | succ d ih =>
    intro xs i hi hl hxs
    obtain ⟨ys, hr, hn, hy⟩ := ih (xs.set i ⟨((m + 2 * i : Nat) : Int), ((m + 2 * i + 1 : Nat) : Int)⟩) (i + 1) (by rw [List.length_set]; omega) (by rw [List.length_set]; omega) (fun j hj => by
      rw [gset _ _ _ _ _ (by omega)]
      split
      · rename_i e; subst e; rfl
      · exact hxs j (by omega))
    rw [List.length_set] at hr hn hy
    have hw : wrap64 (((m + 2 * i : Nat) : Int) + 1) = ((m + 2 * i + 1 : Nat) : Int) := by unfold wrap64; omega
    have hw2 : wrap64 (((m + 2 * i + 1 : Nat) : Int) + 1) = ((m + 2 * (i + 1) : Nat) : Int) := by unfold wrap64; omega
    have st : ∀ k, laws_markExtentS.l0 (k + 1) xs ((m + 2 * i : Nat) : Int) (i : Int) = laws_markExtentS.l0 k (xs.set i ⟨((m + 2 * i : Nat) : Int), ((m + 2 * i + 1 : Nat) : Int)⟩) ((m + 2 * (i + 1) : Nat) : Int) ((i + 1 : Nat) : Int) := fun k => by
      rw [laws_markExtentS.l0]
      rw [if_pos (by omega), if_pos (by omega), Option.bind_some, hw, hw2, inc i (by omega), Int.toNat_natCast]
      simp only [rd_extent, List.set_set]
      rw [gset _ _ _ _ _ (by omega), if_pos rfl]
    exact ⟨ys, Ev.step st hr, hn, hy⟩
theorem held_extents_l (m : Nat) (hm : m < 2 ^ 44) (d : Nat) : ∀ (ys : List S49) (i : Nat), i + d = ys.length → ys.length < 2 ^ 40 → (∀ j, j < ys.length → ys.getD j z49 = ⟨((m + 2 * j : Nat) : Int), ((m + 2 * j + 1 : Nat) : Int)⟩) →
    Ev (fun k => laws_heldExtentS.l0 k ys ((m + 2 * i : Nat) : Int) (i : Int)) ((m + 2 * ys.length : Nat) : Int) := by
  induction d with
  | zero =>
    intro ys i hi _ _
    exact Ev.step (fun k => by rw [laws_heldExtentS.l0, if_neg (by omega)]) (by rw [show i = ys.length by omega]; exact Ev.now _)
  | succ d ih =>
    intro ys i hi hl hy
    have hw : wrap64 (((m + 2 * i : Nat) : Int) + 1) = ((m + 2 * i + 1 : Nat) : Int) := by unfold wrap64; omega
    have hw2 : wrap64 (((m + 2 * i + 1 : Nat) : Int) + 1) = ((m + 2 * (i + 1) : Nat) : Int) := by unfold wrap64; omega
    refine Ev.step (fun k => by
      rw [laws_heldExtentS.l0]
      rw [if_pos (by omega), if_pos (by omega), rd_extent, hy i (by omega)]
      rw [if_pos rfl, hw, if_pos rfl, hw2, inc i (by omega)]) (ih ys (i + 1) (by omega) hl hy)
theorem marked_extents (m : Nat) (hm : m < 2 ^ 44) (xs : List S49) (hl : xs.length < 2 ^ 40) :
    ∃ ys, Ev (fun k => laws_markExtentS.f k xs (m : Int)) (((m + 2 * xs.length : Nat) : Int), ys) ∧ ys.length = xs.length ∧ Ev (fun k => laws_heldExtentS.f k ys (m : Int)) ((m + 2 * xs.length : Nat) : Int) := by
  obtain ⟨ys, h1, h2, h3⟩ := mark_extents_l m hm xs.length xs 0 (by omega) hl (fun j hj => by omega)
  have h4 := held_extents_l m hm ys.length ys 0 (by omega) (by omega) (fun j hj => h3 j (by omega))
  rw [Nat.mul_zero, Nat.add_zero] at h1 h4
  rw [h2] at h4
  exact ⟨ys, h1, h2, h4⟩
theorem marked_free (b : Int) (xs ys : List S49) (hx : xs.length < 2 ^ 40) (hy : ys.length < 2 ^ 40) :
    ∃ us vs, Ev (fun k => laws_markFree.f k b xs ys 1) (((1 + 2 * xs.length + 2 * ys.length : Nat) : Int), us, vs) ∧ us.length = xs.length ∧ vs.length = ys.length ∧ Ev (fun k => laws_heldExtentS.f k us 1) ((1 + 2 * xs.length : Nat) : Int) ∧ Ev (fun k => laws_heldExtentS.f k vs ((1 + 2 * xs.length : Nat) : Int)) ((1 + 2 * xs.length + 2 * ys.length : Nat) : Int) := by
  obtain ⟨us, a1, a2, a3⟩ := marked_extents 1 (by omega) xs hx
  obtain ⟨vs, b1, b2, b3⟩ := marked_extents (1 + 2 * xs.length) (by omega) ys hy
  exact ⟨us, vs, Ev.bind a1 (Ev.bind b1 (Ev.now _)), a2, b2, a3, b3⟩
theorem marked_extents1 (xs : List S49) (hl : xs.length < 2 ^ 40) :
    ∃ ys, Ev (fun k => laws_markExtentS.f k xs 1) (((1 + 2 * xs.length : Nat) : Int), ys) ∧ ys.length = xs.length ∧ Ev (fun k => laws_heldExtentS.f k ys 1) ((1 + 2 * xs.length : Nat) : Int) := marked_extents 1 (by omega) xs hl

theorem held_free (b : Int) (n m : Nat) (us vs : List S49) (h1 : Ev (fun k => laws_heldExtentS.f k us 1) (n : Int)) (h2 : Ev (fun k => laws_heldExtentS.f k vs (n : Int)) (m : Int)) : Ev (fun k => laws_heldFree.f k b us vs 1) (m : Int) :=
  Ev.bind h1 (evn (nn n) (Ev.bind h2 (evn (nn m) (Ev.now _))))

theorem FnExactNewFree : laws_FnExactNewFree.Pure := by
  intro a ha
  refine Ev.rounds ?_
  obtain ⟨xs, ys, ok, b, hx, hy, e1, e2⟩ : ∃ (xs ys : List S49) (ok : Bool) (b : Int), xs.length < 2 ^ 40 ∧ ys.length < 2 ^ 40 ∧ Ev (fun k => spec_NewFree.f k a) (b, xs, ys, ok) ∧ impl_NewFree.f a = some (b, xs, ys, ok) := by
    unfold spec_NewFree.f impl_NewFree.f
    by_cases hc : 1 ≤ a ∧ a ≤ 400
    · have hs := bysize [(⟨0, a⟩ : S49)] (by simp)
      have hlen : (sortE [(⟨0, a⟩ : S49)]).length = 1 := by rw [(sortE_perm _).length_eq]; rfl
      refine ⟨[(⟨0, a⟩ : S49)], sortE [(⟨0, a⟩ : S49)], true, a, by simp, by rw [hlen]; omega, ?_, by rw [if_pos hc]⟩
      refine ev_to_some (l1In_tells _ _ _) (evp (decide_eq_true hc) ?_)
      refine Ev.bind (a := (a, [(⟨0, a⟩ : S49)], sortE [(⟨0, a⟩ : S49)])) ?_ (Ev.now _)
      unfold spec_l5Of.f
      exact ev_some (evp (by simp) (Ev.bind hs (Ev.now _)))
    · refine ⟨[], [], false, 0, by simp, by simp, ?_, by rw [if_neg hc]⟩
      exact ev_to_some (l1In_tells _ _ _) (evn (by rw [decide_eq_true_eq]; exact hc) (Ev.now _))
  have Q := eq_free b xs ys hx hy
  obtain ⟨us, vs, m1, m2, m3, m4, m5⟩ := marked_free b xs ys hx hy
  have H := held_free b _ _ us vs m4 m5
  unfold laws_FnExactNewFree.f
  refine Ev.bind e1 (ev_to_some e2 (Ev.bind Q (evp rfl ?_)))
  rw [bne_self_eq_false]
  refine Ev.step (fun k => by rw [laws_FnExactNewFree.j0, if_neg (by decide)]) (Ev.bind m1 (Ev.bind H (evn (nn _) (evp rfl (ev_to_some e2 (Ev.bind Q (evp rfl ?_)))))))
  rw [bne_self_eq_false]
  exact Ev.step (fun k => by rw [laws_FnExactNewFree.j1, if_neg (by decide)]) (Ev.bind H (evn (nn _) (evp rfl (Ev.now _))))

end Go.Proofs.Ytfhfaeeokibhaaa.Pure
