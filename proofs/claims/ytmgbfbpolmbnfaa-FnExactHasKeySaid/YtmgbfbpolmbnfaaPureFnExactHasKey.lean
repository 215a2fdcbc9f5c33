/- The program's HasKey answers as the reference's at all trees of nodes and all keys; no condition. -/
import Derived.Test.YtmgbfbpolmbnfaaQFnExactHasKeyx3
import Derived.OpenShut
set_option linter.unusedVariables false
set_option linter.unusedSimpArgs false
namespace Go.Proofs.Ytmgbfbpolmbnfaa.Pure
open Go.RowKit Go.Proofs.Ytmgbfbpolmbnfaa.PFnExactHasKey Go.Proofs.YtmgbfbpolmbnfaaW.PrintWords Go.Proofs.YtmgbfbpolmbnfaaW.PrintLast Go.Proofs.YtmgbfbpolmbnfaaW.PrintMore 

theorem wr64 (n : Nat) (h : n < 2 ^ 62) : wrap64 (n : Int) = (n : Int) := by unfold wrap64; omega
theorem wri (n : Int) (h : 0 ≤ n) (h1 : n < 2 ^ 62) : wrap64 n = n := by unfold wrap64; omega
theorem byte_of {x : Int} (h : (Lit.int .u8 x).wf = true) : ∃ n : Nat, n < 256 ∧ x = (n : Int) := by
  have := bounds_u8 h
  exact ⟨x.toNat, by omega, by omega⟩
theorem shr_nat (b j q : Nat) (hj : j ≤ 8) (hq : q = b / 2 ^ j) : shr .u8 (b : Int) (j : Int) = (q : Int) := by
  unfold shr
  rw [Int.toNat_natCast, Nat.min_eq_left (show j ≤ IntKind.bits .u8 from hj), hq]
  simp
theorem dbl (x : Nat) (hx : x < 256) : wrap64 ((x : Int) * 2) = ((2 * x : Nat) : Int) := by unfold wrap64; omega
theorem inc (j : Nat) (hj : j < 2 ^ 62) : wrap64 ((j : Int) + 1) = ((j + 1 : Nat) : Int) := by unfold wrap64; omega
theorem nn (n : Nat) : ¬ ((n : Int) < 0) := by omega

theorem ev_of {α : Type} {g : Nat → Option α} {r : α} (K : Nat) (h : ∀ k, K < k → g k = some r) : Ev g r := ⟨K + 1, fun k hk => h k (by omega)⟩
theorem evp {α : Type} {c : Prop} [Decidable c] {f g : Nat → Option α} {r : α} (h : c) (k : Ev f r) : Ev (fun n => if c then f n else g n) r := Ev.congr (fun _ => if_pos h) k
theorem evn {α : Type} {c : Prop} [Decidable c] {f g : Nat → Option α} {r : α} (h : ¬ c) (k : Ev g r) : Ev (fun n => if c then f n else g n) r := Ev.congr (fun _ => if_neg h) k
theorem ev_some {α β : Type} {a : α} {f : Nat → α → Option β} {r : β} (h : Ev (fun n => f n a) r) : Ev (fun n => (some a).bind (f n)) r := h
theorem ev_to_some {α β : Type} {o : Option α} {a : α} {f : Nat → α → Option β} {r : β} (ho : o = some a) (h : Ev (fun n => f n a) r) : Ev (fun n => o.bind (f n)) r := by subst ho; exact h
theorem maxLen_lt : maxLen < 2 ^ 63 := by decide

theorem gset {α : Type} (z : α) (xs : List α) (i j : Nat) (v : α) (hi : i < xs.length) : (xs.set i v).getD j z = if j = i then v else xs.getD j z := by
  simp only [List.getD_eq_getElem?_getD, List.getElem?_set]
  by_cases h : i = j
  · subst h; simp [hi]
  · rw [if_neg h, if_neg (fun e => h e.symm)]
theorem gext {α : Type} (z : α) {l m : List α} (hl : l.length = m.length) (h : ∀ j, j < l.length → l.getD j z = m.getD j z) : l = m := by
  apply List.ext_getElem hl
  intro j h1 h2
  have := h j h1
  simpa [List.getD_eq_getElem?_getD, h1, h2] using this
theorem rdOf_nat {α : Type} (z : α) (xs : List α) (i : Nat) : rdOf z xs (i : Int) = xs.getD i z := by unfold rdOf; rw [Int.toNat_natCast]
theorem gmem {α : Type} (z : α) {xs : List α} {i : Nat} (h : i < xs.length) : xs.getD i z ∈ xs := by
  rw [List.getD_eq_getElem?_getD]; simp [h]
/-- what a count of sizes leaves -/
def Left (B r : Int) : Prop := r < 0 ∨ 0 ≤ r ∧ r ≤ B

theorem rd_ints (xs : List Int) (i : Nat) : rd xs (i : Int) = xs.getD i 0 := by unfold rd; rw [Int.toNat_natCast]
theorem to_ints_l (xs : List Int) (hl : xs.length < 2 ^ 45) (d : Nat) : ∀ (ys : List Int) (i : Nat), i + d = xs.length → ys.length = xs.length → (∀ j, j < i → ys.getD j 0 = xs.getD j 0) →
    Ev (fun k => laws_toIntS.l0 k xs ys (i : Int)) xs := by
  induction d with
  | zero =>
    intro ys i hi hy he
    refine Ev.step (fun k => by simp only [laws_toIntS.l0]; rw [if_neg (by omega)]) ?_
    rw [gext 0 (l := ys) (m := xs) hy (fun j hj => he j (by omega))]
    exact Ev.now _
  | succ d ih =>
    intro ys i hi hy he
    refine Ev.step (fun k => by
      simp only [laws_toIntS.l0]
      rw [if_pos (by omega), if_pos (by omega), if_pos (by omega), rd_ints, Int.toNat_natCast, inc i (by omega)]) ?_
    refine ih _ (i + 1) (by omega) (by rw [List.length_set]; exact hy) (fun j hj => ?_)
    rw [gset _ _ _ _ _ (by omega)]
    split
    · rename_i e; subst e; rfl
    · exact he j (by omega)
theorem to_ints (xs : List Int) (hl : xs.length < 2 ^ 45) : Ev (fun k => laws_toIntS.f k xs) xs := by
  unfold laws_toIntS.f
  exact evp (by omega) (evp (by omega) (to_ints_l xs hl xs.length _ 0 (by omega) (by simp) (fun j hj => by omega)))
theorem eq_ints_l (xs : List Int) (hl : xs.length < 2 ^ 45) (d : Nat) : ∀ (i : Nat), i + d = xs.length → Ev (fun k => laws_eqIntS.l0 k xs xs (i : Int)) true := by
  induction d with
  | zero => intro i hi; exact Ev.step (fun k => by simp only [laws_eqIntS.l0]; rw [if_neg (by omega)]) (Ev.now _)
  | succ d ih =>
    intro i hi
    exact Ev.step (fun k => by
      simp only [laws_eqIntS.l0]
      rw [if_pos (by omega), if_pos (by omega), if_pos (by omega), if_pos True.intro, inc i (by omega)]) (ih (i + 1) (by omega))
theorem eq_ints (xs : List Int) (hl : xs.length < 2 ^ 45) : Ev (fun k => laws_eqIntS.f k xs xs) true := by
  unfold laws_eqIntS.f
  exact evp rfl (eq_ints_l xs hl xs.length 0 (by omega))
def convN (x : S69) : S73 := ⟨x.f0, x.f1, x.f2⟩
theorem rd_node (xs : List S73) (i : Nat) : rd_T73 xs (i : Int) = xs.getD i z73 := by unfold rd_T73; rw [Int.toNat_natCast]
theorem rd0_node (xs : List S69) (i : Nat) : rd_T69 xs (i : Int) = xs.getD i z69 := by unfold rd_T69; rw [Int.toNat_natCast]
/-- rows that the count of sizes has let through -/
def RowsN (xs : List S69) : Prop := ∀ j, j < xs.length → (xs.getD j z69).f1.length ≤ 1048576 ∧ (xs.getD j z69).f2.length ≤ 1048576
theorem sz_ints (xs : List Int) (B : Int) (h0 : 0 ≤ B) (hB : B ≤ 1048576) (hl : xs.length ≤ maxLen) : ∃ r, laws_szIntS.f xs B = some r ∧ (r < 0 ∨ 0 ≤ r ∧ r ≤ B ∧ (xs.length : Int) ≤ B) := by
  have hml := maxLen_lt
  unfold laws_szIntS.f
  rw [show wrap64 (B - (xs.length : Int)) = B - (xs.length : Int) by unfold wrap64; omega]
  by_cases h : B - (xs.length : Int) < 0
  · exact ⟨-1, by rw [if_pos h], Or.inl (by omega)⟩
  · exact ⟨_, by rw [if_neg h], Or.inr (by omega)⟩
theorem sz_node (x : S69) (hx : okS69 x) (B : Int) (h0 : 0 ≤ B) (hB : B ≤ 1048576) : ∃ r, laws_szNode.f x.f0 x.f1 x.f2 B = some r ∧ (r < 0 ∨ 0 ≤ r ∧ r ≤ B ∧ (x.f1.length : Int) ≤ B ∧ (x.f2.length : Int) ≤ B) := by
  unfold laws_szNode.f
  obtain ⟨r, h1, h2⟩ := sz_ints x.f1 B h0 hB hx.1.1
  rw [h1, Option.bind_some]
  by_cases h : r < 0
  · exact ⟨-1, by rw [if_pos h], Or.inl (by omega)⟩
  · rw [if_neg h]
    obtain ⟨q, h3, h4⟩ := sz_ints x.f2 r (by omega) (by omega) hx.2.1
    rw [h3, Option.bind_some]
    by_cases h5 : q < 0
    · exact ⟨-1, by rw [if_pos h5], Or.inl (by omega)⟩
    · exact ⟨q, by rw [if_neg h5], Or.inr (by omega)⟩
theorem sz_nodes_l (xs : List S69) (hl : xs.length < 2 ^ 48) (hs : ∀ x ∈ xs, okS69 x) (d : Nat) : ∀ (i : Nat) (m : Int), i + d = xs.length → 0 ≤ m → m ≤ 1048576 →
    ∃ r, Ev (fun k => laws_szNodeS.l0 k xs m (i : Int)) r ∧ (r < 0 ∨ 0 ≤ r ∧ ∀ j, i ≤ j → j < xs.length → (xs.getD j z69).f1.length ≤ 1048576 ∧ (xs.getD j z69).f2.length ≤ 1048576) := by
  induction d with
  | zero =>
    intro i m hi h0 h1
    exact ⟨m, Ev.step (fun k => by simp only [laws_szNodeS.l0]; rw [if_neg (by omega)]) (Ev.now _), Or.inr ⟨h0, fun j h2 h3 => by omega⟩⟩
  | succ d ih =>
    intro i m hi h0 h1
    obtain ⟨r, h2, h3⟩ := sz_node (xs.getD i z69) (hs _ (gmem z69 (show i < xs.length by omega))) m h0 h1
    by_cases h : r < 0
    · exact ⟨-1, Ev.step (fun k => by simp only [laws_szNodeS.l0]; rw [if_pos (by omega), if_pos (by omega), rd0_node, h2, Option.bind_some, if_pos h]) (Ev.now _), Or.inl (by omega)⟩
    · obtain ⟨q, h4, h5⟩ := ih (i + 1) r (by omega) (by omega) (by omega)
      refine ⟨q, Ev.step (fun k => by simp only [laws_szNodeS.l0]; rw [if_pos (by omega), if_pos (by omega), rd0_node, h2, Option.bind_some, if_neg h, inc i (by omega)]) h4, ?_⟩
      rcases h5 with h5 | ⟨h5, h6⟩
      · exact Or.inl h5
      · refine Or.inr ⟨h5, fun j hj hj2 => ?_⟩
        by_cases e : j = i
        · subst e
          omega
        · exact h6 j (by omega) hj2
theorem sz_tree (xs : List S69) (a : Int) (hl : xs.length ≤ maxLen) (hs : ∀ x ∈ xs, okS69 x) : ∃ r, Ev (fun k => laws_szTree.f k xs a 1048576) r ∧ (r < 0 ∨ 0 ≤ r ∧ xs.length ≤ 1048576 ∧ RowsN xs) := by
  have hml := maxLen_lt
  unfold laws_szTree.f laws_szNodeS.f
  rw [show wrap64 (1048576 - (xs.length : Int)) = 1048576 - (xs.length : Int) by unfold wrap64; omega]
  by_cases hneg : (1048576 : Int) - (xs.length : Int) < 0
  · exact ⟨-1, Ev.bind (evp hneg (Ev.now _)) (evp (by omega) (Ev.now _)), Or.inl (by omega)⟩
  · obtain ⟨r, h1, h2⟩ := sz_nodes_l xs (by omega) hs xs.length 0 (1048576 - (xs.length : Int)) (by omega) (by omega) (by omega)
    by_cases h : r < 0
    · exact ⟨-1, Ev.bind (evn hneg h1) (evp h (Ev.now _)), Or.inl (by omega)⟩
    · refine ⟨r, Ev.bind (evn hneg h1) (evn h (Ev.now _)), Or.inr ⟨by omega, by omega, fun j hj => ?_⟩⟩
      rcases h2 with h2 | ⟨_, h2⟩
      · omega
      · exact h2 j (Nat.zero_le _) hj
theorem to_nodes_l (xs : List S69) (hl : xs.length < 2 ^ 40) (hr : RowsN xs) (d : Nat) : ∀ (ys : List S73) (i : Nat), i + d = xs.length → ys.length = xs.length → (∀ j, j < i → ys.getD j z73 = (xs.map convN).getD j z73) →
    Ev (fun k => laws_toNodeS.l0 k xs ys (i : Int)) (xs.map convN) := by
  induction d with
  | zero =>
    intro ys i hi hy he
    refine Ev.step (fun k => by simp only [laws_toNodeS.l0]; rw [if_neg (by omega)]) ?_
    rw [gext z73 (l := ys) (m := xs.map convN) (by rw [List.length_map]; exact hy) (fun j hj => he j (by omega))]
    exact Ev.now _
  | succ d ih =>
    intro ys i hi hy he
    obtain ⟨b1, b2⟩ := hr i (by omega)
    refine Ev.step (fun k => by
      simp only [laws_toNodeS.l0]
      rw [if_pos (by omega), if_pos (by omega), rd0_node, Int.toNat_natCast, inc i (by omega)]) ?_
    refine Ev.bind (a := ((xs.getD i z69).f0, (xs.getD i z69).f1, (xs.getD i z69).f2)) ?_ ?_
    · unfold laws_toNode.f
      exact Ev.bind (to_ints _ (by omega)) (Ev.bind (to_ints _ (by omega)) (Ev.now _))
    · refine evp (by omega) (ih _ (i + 1) (by omega) (by rw [List.length_set]; exact hy) (fun j hj => ?_))
      rw [gset _ _ _ _ _ (by omega)]
      split
      · rename_i e; subst e
        simp only [List.getD_eq_getElem?_getD, List.getElem?_map, List.getElem?_eq_getElem (show j < xs.length by omega), Option.map_some, Option.getD_some, convN]
      · exact he j (by omega)
theorem to_tree (xs : List S69) (a : Int) (hl : xs.length ≤ 1048576) (hr : RowsN xs) : Ev (fun k => laws_toTree.f k xs a) (xs.map convN, a) := by
  unfold laws_toTree.f laws_toNodeS.f
  exact Ev.bind (evp (by omega) (evp (by omega) (to_nodes_l xs (by omega) hr xs.length _ 0 (by omega) (by simp) (fun j hj => by omega)))) (Ev.now _)
theorem eq_nodes_l (xs : List S73) (hl : xs.length < 2 ^ 40) (hs : szT xs = true) (d : Nat) : ∀ (i : Nat), i + d = xs.length → Ev (fun k => laws_eqNodeS.l0 k xs xs (i : Int)) true := by
  induction d with
  | zero => intro i hi; exact Ev.step (fun k => by simp only [laws_eqNodeS.l0]; rw [if_neg (by omega)]) (Ev.now _)
  | succ d ih =>
    intro i hi
    have hb := szT_at hs i
    unfold nodeAt at hb
    refine Ev.step (fun k => by
      simp only [laws_eqNodeS.l0]
      rw [if_pos (by omega), if_pos (by omega), if_pos (by omega), rd_node, inc i (by omega)]) ?_
    refine Ev.bind (a := true) ?_ (evp rfl (ih (i + 1) (by omega)))
    unfold laws_eqNode.f
    exact evn (by simp) (Ev.bind (eq_ints _ (by omega)) (evp rfl (Ev.bind (eq_ints _ (by omega)) (evp rfl (Ev.now _)))))
theorem eq_tree (xs : List S73) (a : Int) (hs : szT xs = true) : Ev (fun k => laws_eqTree.f k xs a xs a) true := by
  have hl := szT_len hs
  unfold laws_eqTree.f laws_eqNodeS.f
  exact Ev.bind (evp rfl (eq_nodes_l xs (by omega) hs xs.length 0 (by omega))) (evp rfl (evp rfl (Ev.now _)))
theorem szT_of (xs : List S69) (hl : xs.length ≤ 1048576) (hr : RowsN xs) : szT (xs.map convN) = true := by
  unfold szT
  rw [Bool.and_eq_true, List.length_map, decide_eq_true_iff, List.all_eq_true]
  refine ⟨hl, fun y hy => ?_⟩
  obtain ⟨x, hx, rfl⟩ := List.mem_map.mp hy
  obtain ⟨i, hi, rfl⟩ := List.getElem_of_mem hx
  have := hr i hi
  rw [show xs.getD i z69 = xs[i] by simp [List.getD_eq_getElem?_getD, List.getElem?_eq_getElem hi]] at this
  rw [Bool.and_eq_true, decide_eq_true_iff, decide_eq_true_iff]
  exact this

theorem FnExactHasKey : laws_FnExactHasKey.PureG := by
  intro xs a key hx ha hk
  obtain ⟨r, h1, h2⟩ := sz_tree xs a hx.1 hx.2
  refine Ev.rounds (r := true) ?_
  unfold laws_FnExactHasKey.f
  by_cases h : r < 0
  · exact Ev.bind h1 (evp h (Ev.now _))
  · obtain ⟨_, hl, hr⟩ : 0 ≤ r ∧ xs.length ≤ 1048576 ∧ RowsN xs := by
      rcases h2 with h2 | h2
      · exact absurd h2 h
      · exact h2
    have hs := szT_of xs hl hr
    have ht := to_tree xs a hl hr
    have hspec : spec_HasKey.f (xs.map convN) a key = some (hasV (ofF (xs.map convN) a) key) := by
      unfold spec_HasKey.f
      rw [if_pos hs]
    have himpl : impl_HasKey.f (xs.map convN) a key = some (hasV (ofF (xs.map convN) a) key) := by
      unfold impl_HasKey.f
      rw [if_pos hs, good_of]
    refine Ev.bind h1 (evn h (Ev.bind ht (ev_to_some hspec (Ev.bind ht (ev_to_some himpl (evn (by simp) (evp rfl ?_)))))))
    rw [bne_self_eq_false]
    refine Ev.step (fun k => by simp only [laws_FnExactHasKey.j0]; rw [if_neg (by decide)]) ?_
    exact Ev.bind ht (Ev.bind (eq_tree _ _ hs) (evp rfl (Ev.now _)))

end Go.Proofs.Ytmgbfbpolmbnfaa.Pure
