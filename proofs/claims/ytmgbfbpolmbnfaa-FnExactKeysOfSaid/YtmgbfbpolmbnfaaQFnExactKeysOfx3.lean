/- The walks of FnExactKeysOf: Go's calls come to what the Lean functions beside them say; no condition. -/
import Derived.Test.YtmgbfbpolmbnfaaQFnExactKeysOfx0
import Derived.Test.YtmgbfbpolmbnfaaQFnExactKeysOfx1
import Derived.Test.YtmgbfbpolmbnfaaQFnExactKeysOfx2
namespace Go.Proofs.Ytmgbfbpolmbnfaa.PFnExactKeysOf
open Go.RowKit Go.Proofs.YtmgbfbpolmbnfaaW.PrintWords Go.Proofs.YtmgbfbpolmbnfaaW.PrintLast Go.Proofs.YtmgbfbpolmbnfaaW.PrintMore
attribute [local go_sem] max2_int min2_int max_two min_two max_three min_three max_four min_four   -- for this text's walks alone
set_option linter.unusedVariables false
set_option linter.unusedSimpArgs false
set_option maxRecDepth 100000

/-! ### laws_FnExactKeysOf: function 5 (by hand) -/
/-! #### the law KeysOf: what its parts come to -/
theorem kl_inc (j : Nat) (hj : j < 2 ^ 62) : wrap64 ((j : Int) + 1) = ((j + 1 : Nat) : Int) := by unfold wrap64; omega
theorem evp {α : Type} {c : Prop} [Decidable c] {f g : Nat → Option α} {r : α} (h : c) (k : Ev f r) : Ev (fun n => if c then f n else g n) r := Ev.congr (fun _ => if_pos h) k
theorem evn {α : Type} {c : Prop} [Decidable c] {f g : Nat → Option α} {r : α} (h : ¬ c) (k : Ev g r) : Ev (fun n => if c then f n else g n) r := Ev.congr (fun _ => if_neg h) k
theorem gset {α : Type} (z : α) (xs : List α) (i j : Nat) (v : α) (hi : i < xs.length) : (xs.set i v).getD j z = if j = i then v else xs.getD j z := by
  simp only [List.getD_eq_getElem?_getD, List.getElem?_set]
  by_cases h : i = j
  · subst h; simp [hi]
  · rw [if_neg h, if_neg (fun e => h e.symm)]
theorem gext {α : Type} (z : α) {l m : List α} (hl : l.length = m.length) (h : ∀ j, j < l.length → l.getD j z = m.getD j z) : l = m := by
  apply List.ext_getElem hl
  intro j h1 h2
  have := h j h1
  simpa [List.getD_eq_getElem?_getD, h1, h2] using this
theorem gmem {α : Type} (z : α) {xs : List α} {i : Nat} (h : i < xs.length) : xs.getD i z ∈ xs := by
  rw [List.getD_eq_getElem?_getD]; simp [h]
theorem maxLen_lt : maxLen < 2 ^ 63 := by decide
def okL69 (x : S69) : Prop := x.f1.length ≤ maxLen ∧ x.f2.length ≤ maxLen
theorem rd_ints (xs : List Int) (i : Nat) : rd xs (i : Int) = xs.getD i 0 := by unfold rd; rw [Int.toNat_natCast]
theorem to_ints_l (xs : List Int) (hl : xs.length < 2 ^ 45) (d : Nat) : ∀ (ys : List Int) (i : Nat), i + d = xs.length → ys.length = xs.length → (∀ j, j < i → ys.getD j 0 = xs.getD j 0) →
    Ev (fun k => laws_toIntS.l0 k xs ys (i : Int)) xs := by
  induction d with
  | zero =>
    intro ys i hi hy he
    refine Ev.step (fun k => by simp only [laws_toIntS.l0]; rw [if_neg (by omega)]) ?_
    rw [gext 0 (l := ys) (m := xs) hy (fun j hj => he j (by omega))]
    exact Ev.now _
  | succ d ih =>
    intro ys i hi hy he
    refine Ev.step (fun k => by
      simp only [laws_toIntS.l0]
      rw [if_pos (by omega), if_pos (by omega), if_pos (by omega), rd_ints, Int.toNat_natCast, kl_inc i (by omega)]) ?_
    refine ih _ (i + 1) (by omega) (by rw [List.length_set]; exact hy) (fun j hj => ?_)
    rw [gset _ _ _ _ _ (by omega)]
    split
    · rename_i e; subst e; rfl
    · exact he j (by omega)
theorem to_ints (xs : List Int) (hl : xs.length < 2 ^ 45) : Ev (fun k => laws_toIntS.f k xs) xs := by
  unfold laws_toIntS.f
  exact evp (by omega) (evp (by omega) (to_ints_l xs hl xs.length _ 0 (by omega) (by simp) (fun j hj => by omega)))
theorem eq_ints_l (xs : List Int) (hl : xs.length < 2 ^ 45) (d : Nat) : ∀ (i : Nat), i + d = xs.length → Ev (fun k => laws_eqIntS.l0 k xs xs (i : Int)) true := by
  induction d with
  | zero => intro i hi; exact Ev.step (fun k => by simp only [laws_eqIntS.l0]; rw [if_neg (by omega)]) (Ev.now _)
  | succ d ih =>
    intro i hi
    exact Ev.step (fun k => by
      simp only [laws_eqIntS.l0]
      rw [if_pos (by omega), if_pos (by omega), if_pos (by omega), if_pos True.intro, kl_inc i (by omega)]) (ih (i + 1) (by omega))
theorem eq_ints (xs : List Int) (hl : xs.length < 2 ^ 45) : Ev (fun k => laws_eqIntS.f k xs xs) true := by
  unfold laws_eqIntS.f
  exact evp rfl (eq_ints_l xs hl xs.length 0 (by omega))
def convN (x : S69) : S73 := ⟨x.f0, x.f1, x.f2⟩
theorem rd_node (xs : List S73) (i : Nat) : rd_T73 xs (i : Int) = xs.getD i z73 := by unfold rd_T73; rw [Int.toNat_natCast]
theorem rd0_node (xs : List S69) (i : Nat) : rd_T69 xs (i : Int) = xs.getD i z69 := by unfold rd_T69; rw [Int.toNat_natCast]
/-- rows that the count of sizes has let through -/
def RowsN (xs : List S69) : Prop := ∀ j, j < xs.length → (xs.getD j z69).f1.length ≤ 1048576 ∧ (xs.getD j z69).f2.length ≤ 1048576
theorem sz_ints (xs : List Int) (B : Int) (h0 : 0 ≤ B) (hB : B ≤ 1048576) (hl : xs.length ≤ maxLen) : ∃ r, laws_szIntS.f xs B = some r ∧ (r < 0 ∨ 0 ≤ r ∧ r ≤ B ∧ (xs.length : Int) ≤ B) := by
  have hml := maxLen_lt
  unfold laws_szIntS.f
  rw [show wrap64 (B - (xs.length : Int)) = B - (xs.length : Int) by unfold wrap64; omega]
  by_cases h : B - (xs.length : Int) < 0
  · exact ⟨-1, by rw [if_pos h], Or.inl (by omega)⟩
  · exact ⟨_, by rw [if_neg h], Or.inr (by omega)⟩
theorem sz_node (x : S69) (hx : okL69 x) (B : Int) (h0 : 0 ≤ B) (hB : B ≤ 1048576) : ∃ r, laws_szNode.f x.f0 x.f1 x.f2 B = some r ∧ (r < 0 ∨ 0 ≤ r ∧ r ≤ B ∧ (x.f1.length : Int) ≤ B ∧ (x.f2.length : Int) ≤ B) := by
  unfold laws_szNode.f
  obtain ⟨r, h1, h2⟩ := sz_ints x.f1 B h0 hB hx.1
  rw [h1, Option.bind_some]
  by_cases h : r < 0
  · exact ⟨-1, by rw [if_pos h], Or.inl (by omega)⟩
  · rw [if_neg h]
    obtain ⟨q, h3, h4⟩ := sz_ints x.f2 r (by omega) (by omega) hx.2
    rw [h3, Option.bind_some]
    by_cases h5 : q < 0
    · exact ⟨-1, by rw [if_pos h5], Or.inl (by omega)⟩
    · exact ⟨q, by rw [if_neg h5], Or.inr (by omega)⟩
theorem sz_nodes_l (xs : List S69) (hl : xs.length < 2 ^ 48) (hs : ∀ x ∈ xs, okL69 x) (d : Nat) : ∀ (i : Nat) (m : Int), i + d = xs.length → 0 ≤ m → m ≤ 1048576 →
    ∃ r, Ev (fun k => laws_szNodeS.l0 k xs m (i : Int)) r ∧ (r < 0 ∨ 0 ≤ r ∧ ∀ j, i ≤ j → j < xs.length → (xs.getD j z69).f1.length ≤ 1048576 ∧ (xs.getD j z69).f2.length ≤ 1048576) := by
  induction d with
  | zero =>
    intro i m hi h0 h1
    exact ⟨m, Ev.step (fun k => by simp only [laws_szNodeS.l0]; rw [if_neg (by omega)]) (Ev.now _), Or.inr ⟨h0, fun j h2 h3 => by omega⟩⟩
  | succ d ih =>
    intro i m hi h0 h1
    obtain ⟨r, h2, h3⟩ := sz_node (xs.getD i z69) (hs _ (gmem z69 (show i < xs.length by omega))) m h0 h1
    by_cases h : r < 0
    · exact ⟨-1, Ev.step (fun k => by simp only [laws_szNodeS.l0]; rw [if_pos (by omega), if_pos (by omega), rd0_node, h2, Option.bind_some, if_pos h]) (Ev.now _), Or.inl (by omega)⟩
    · obtain ⟨q, h4, h5⟩ := ih (i + 1) r (by omega) (by omega) (by omega)
      refine ⟨q, Ev.step (fun k => by simp only [laws_szNodeS.l0]; rw [if_pos (by omega), if_pos (by omega), rd0_node, h2, Option.bind_some, if_neg h, kl_inc i (by omega)]) h4, ?_⟩
      rcases h5 with h5 | ⟨h5, h6⟩
      · exact Or.inl h5
      · refine Or.inr ⟨h5, fun j hj hj2 => ?_⟩
        by_cases e : j = i
        · subst e
          omega
        · exact h6 j (by omega) hj2
theorem sz_tree (xs : List S69) (a : Int) (hl : xs.length ≤ maxLen) (hs : ∀ x ∈ xs, okL69 x) : ∃ r, Ev (fun k => laws_szTree.f k xs a 1048576) r ∧ (r < 0 ∨ 0 ≤ r ∧ xs.length ≤ 1048576 ∧ RowsN xs) := by
  have hml := maxLen_lt
  unfold laws_szTree.f laws_szNodeS.f
  rw [show wrap64 (1048576 - (xs.length : Int)) = 1048576 - (xs.length : Int) by unfold wrap64; omega]
  by_cases hneg : (1048576 : Int) - (xs.length : Int) < 0
  · exact ⟨-1, Ev.bind (evp hneg (Ev.now _)) (evp (by omega) (Ev.now _)), Or.inl (by omega)⟩
  · obtain ⟨r, h1, h2⟩ := sz_nodes_l xs (by omega) hs xs.length 0 (1048576 - (xs.length : Int)) (by omega) (by omega) (by omega)
    by_cases h : r < 0
    · exact ⟨-1, Ev.bind (evn hneg h1) (evp h (Ev.now _)), Or.inl (by omega)⟩
    · refine ⟨r, Ev.bind (evn hneg h1) (evn h (Ev.now _)), Or.inr ⟨by omega, by omega, fun j hj => ?_⟩⟩
      rcases h2 with h2 | ⟨_, h2⟩
      · omega
      · exact h2 j (Nat.zero_le _) hj
theorem to_nodes_l (xs : List S69) (hl : xs.length < 2 ^ 40) (hr : RowsN xs) (d : Nat) : ∀ (ys : List S73) (i : Nat), i + d = xs.length → ys.length = xs.length → (∀ j, j < i → ys.getD j z73 = (xs.map convN).getD j z73) →
    Ev (fun k => laws_toNodeS.l0 k xs ys (i : Int)) (xs.map convN) := by
  induction d with
  | zero =>
    intro ys i hi hy he
    refine Ev.step (fun k => by simp only [laws_toNodeS.l0]; rw [if_neg (by omega)]) ?_
    rw [gext z73 (l := ys) (m := xs.map convN) (by rw [List.length_map]; exact hy) (fun j hj => he j (by omega))]
    exact Ev.now _
  | succ d ih =>
    intro ys i hi hy he
    obtain ⟨b1, b2⟩ := hr i (by omega)
    refine Ev.step (fun k => by
      simp only [laws_toNodeS.l0]
      rw [if_pos (by omega), if_pos (by omega), rd0_node, Int.toNat_natCast, kl_inc i (by omega)]) ?_
    refine Ev.bind (a := ((xs.getD i z69).f0, (xs.getD i z69).f1, (xs.getD i z69).f2)) ?_ ?_
    · unfold laws_toNode.f
      exact Ev.bind (to_ints _ (by omega)) (Ev.bind (to_ints _ (by omega)) (Ev.now _))
    · refine evp (by omega) (ih _ (i + 1) (by omega) (by rw [List.length_set]; exact hy) (fun j hj => ?_))
      rw [gset _ _ _ _ _ (by omega)]
      split
      · rename_i e; subst e
        simp only [List.getD_eq_getElem?_getD, List.getElem?_map, List.getElem?_eq_getElem (show j < xs.length by omega), Option.map_some, Option.getD_some, convN]
      · exact he j (by omega)
theorem to_tree (xs : List S69) (a : Int) (hl : xs.length ≤ 1048576) (hr : RowsN xs) : Ev (fun k => laws_toTree.f k xs a) (xs.map convN, a) := by
  unfold laws_toTree.f laws_toNodeS.f
  exact Ev.bind (evp (by omega) (evp (by omega) (to_nodes_l xs (by omega) hr xs.length _ 0 (by omega) (by simp) (fun j hj => by omega)))) (Ev.now _)
theorem eq_nodes_l (xs : List S73) (hl : xs.length < 2 ^ 40) (hs : szT xs = true) (d : Nat) : ∀ (i : Nat), i + d = xs.length → Ev (fun k => laws_eqNodeS.l0 k xs xs (i : Int)) true := by
  induction d with
  | zero => intro i hi; exact Ev.step (fun k => by simp only [laws_eqNodeS.l0]; rw [if_neg (by omega)]) (Ev.now _)
  | succ d ih =>
    intro i hi
    have hb := szT_at hs i
    unfold nodeAt at hb
    refine Ev.step (fun k => by
      simp only [laws_eqNodeS.l0]
      rw [if_pos (by omega), if_pos (by omega), if_pos (by omega), rd_node, kl_inc i (by omega)]) ?_
    refine Ev.bind (a := true) ?_ (evp rfl (ih (i + 1) (by omega)))
    unfold laws_eqNode.f
    exact evn (by simp) (Ev.bind (eq_ints _ (by omega)) (evp rfl (Ev.bind (eq_ints _ (by omega)) (evp rfl (Ev.now _)))))
theorem eq_tree (xs : List S73) (a : Int) (hs : szT xs = true) : Ev (fun k => laws_eqTree.f k xs a xs a) true := by
  have hl := szT_len hs
  unfold laws_eqTree.f laws_eqNodeS.f
  exact Ev.bind (evp rfl (eq_nodes_l xs (by omega) hs xs.length 0 (by omega))) (evp rfl (evp rfl (Ev.now _)))
theorem szT_of (xs : List S69) (hl : xs.length ≤ 1048576) (hr : RowsN xs) : szT (xs.map convN) = true := by
  unfold szT
  rw [Bool.and_eq_true, List.length_map, decide_eq_true_iff, List.all_eq_true]
  refine ⟨hl, fun y hy => ?_⟩
  obtain ⟨x, hx, rfl⟩ := List.mem_map.mp hy
  obtain ⟨i, hi, rfl⟩ := List.getElem_of_mem hx
  have := hr i hi
  rw [show xs.getD i z69 = xs[i] by simp [List.getD_eq_getElem?_getD, List.getElem?_eq_getElem hi]] at this
  rw [Bool.and_eq_true, decide_eq_true_iff, decide_eq_true_iff]
  exact this
/-- the marks on a row of ints -/
def mkI (n : Nat) : List Int := (List.range n).map (fun i => ((i + 1 : Nat) : Int))
theorem mkI_len (n : Nat) : (mkI n).length = n := by simp [mkI]
theorem mkI_get (n i : Nat) (h : i < n) : (mkI n).getD i 0 = ((i + 1 : Nat) : Int) := by
  unfold mkI
  rw [List.getD_eq_getElem?_getD, List.getElem?_map, List.getElem?_range h]
  rfl
theorem mark_ints_l (n : Nat) (hn : n < 2 ^ 40) (d : Nat) : ∀ (ys : List Int) (i : Nat), i + d = n → ys.length = n → (∀ j, j < i → ys.getD j 0 = ((j + 1 : Nat) : Int)) → Ev (fun k => laws_markIntS.l0 k ys ((i + 1 : Nat) : Int) (i : Int)) (((n + 1 : Nat) : Int), mkI n) := by
  induction d with
  | zero =>
    intro ys i hi hy he
    refine Ev.step (fun k => by simp only [laws_markIntS.l0]; rw [if_neg (by omega)]) ?_
    rw [gext 0 (l := ys) (m := mkI n) (by rw [mkI_len]; exact hy) (fun j hj => by rw [he j (by omega), mkI_get n j (by omega)]), show i = n by omega]
    exact Ev.now _
  | succ d ih =>
    intro ys i hi hy he
    refine Ev.step (fun k => by
      simp only [laws_markIntS.l0]
      rw [if_pos (by omega), if_pos (by omega), Int.toNat_natCast, kl_inc i (by omega), kl_inc (i + 1) (by omega)]) ?_
    refine ih _ (i + 1) (by omega) (by rw [List.length_set]; exact hy) (fun j hj => ?_)
    rw [gset _ _ _ _ _ (by omega)]
    split
    · rename_i e; subst e; rfl
    · exact he j (by omega)
theorem mark_ints (l : List Int) (hn : l.length < 2 ^ 40) : Ev (fun k => laws_markIntS.f k l 1) (((l.length + 1 : Nat) : Int), mkI l.length) := by
  unfold laws_markIntS.f
  exact mark_ints_l l.length hn l.length l 0 (by omega) rfl (fun j hj => absurd hj (Nat.not_lt_zero j))
theorem held_ints_l (n : Nat) (hn : n < 2 ^ 40) (d : Nat) : ∀ (i : Nat), i + d = n → Ev (fun k => laws_heldIntS.l0 k (mkI n) ((i + 1 : Nat) : Int) (i : Int)) ((n + 1 : Nat) : Int) := by
  induction d with
  | zero =>
    intro i hi
    refine Ev.step (fun k => by simp only [laws_heldIntS.l0]; rw [if_neg (by rw [mkI_len]; omega)]) ?_
    rw [show i = n by omega]
    exact Ev.now _
  | succ d ih =>
    intro i hi
    exact Ev.step (fun k => by
      simp only [laws_heldIntS.l0]
      rw [if_pos (by rw [mkI_len]; omega), if_pos (by omega), rd_ints, mkI_get n i (by omega), if_pos rfl, kl_inc i (by omega), kl_inc (i + 1) (by omega)]) (ih (i + 1) (by omega))
theorem held_ints (n : Nat) (hn : n < 2 ^ 40) : Ev (fun k => laws_heldIntS.f k (mkI n) 1) ((n + 1 : Nat) : Int) := by
  unfold laws_heldIntS.f
  exact held_ints_l n hn n 0 (by omega)
theorem keysV_len (ns : List S73) (a : Int) : (keysV (ofF ns a)).1.length ≤ 200 := by
  unfold keysV
  cases h : ofF ns a with
  | none => exact Nat.zero_le _
  | some x =>
    obtain ⟨d, h1, h2, h3, h4, h5, h6, h7, h8, h9, h10⟩ := (ofF_fine ns a x).mp h
    show (keysF 20 x).length ≤ 200
    rw [keysF_bal d 20 d true x h7 h4 (Nat.le_refl _)]
    exact h10
/-! #### a tree that has been made, as the marking wants it -/
theorem rowN_of {N1 N2 : Nat} {w : World} {ok : Nat → Prop} {v : Value} {l : List Int} (h : (Kd.int .i64).R 3 w N1 ok v l) (hok : ∀ k, ok k → k < N2) : RowN N1 N2 w v l.length := by
  obtain ⟨A, c, rfl⟩ := Kd.R_slice h
  refine ⟨A, c, rfl, fun h0 => ?_⟩
  obtain ⟨g, cap, e, hg1, hg2, cur, hcur⟩ := Kd.R_form h h0
  cases e
  have hc : ∀ j, j < l.length → cur[j]? = some (.int .i64 (l.getD j 0)) := fun j hj => by
    obtain ⟨cs, hcl, hM, hcc, _⟩ := Kd.R_elem h 0 (j : Int) (by omega) (by omega)
    rw [Int.toNat_natCast] at hM hcc
    have hM2 : cs = [.int .i64 (l.getD j 0)] := hM
    have := hcc 0 (.int .i64 (l.getD j 0)) (by rw [hM2]; rfl)
    rw [show j * (Kd.int .i64).sz + 0 = j from by show j * 1 + 0 = j; omega] at this
    rw [← this, blk_cell hcur]
  refine ⟨g, cur, rfl, hg1, hok g (h.1 g rfl), hcur, ?_, fun j hj => ⟨_, hc j hj⟩⟩
  have := (Array.getElem?_eq_some_iff.1 (hc (l.length - 1) (by omega))).1
  omega
theorem nodesN_of {N1 N2 : Nat} {w : World} {v : Value} {xs : List S73} (h : k73.R 73 w N1 (fun k => k < N2) v xs) (hs : szT xs = true) : NodesN N1 N2 w v xs.length := by
  obtain ⟨A, c, rfl⟩ := Kd.R_slice h
  refine ⟨A, c, rfl, fun h0 => ?_⟩
  obtain ⟨g, cap, e, hg1, hg2, cur, hcur⟩ := Kd.R_form h h0
  cases e
  have hc : ∀ i, i < xs.length → ∃ v1 v2, cur[i * 3]? = some (.bool (xs.getD i z73).f0) ∧ cur[i * 3 + 1]? = some v1 ∧ cur[i * 3 + 2]? = some v2 ∧ RowN N1 N2 w v1 (xs.getD i z73).f1.length ∧ RowN N1 N2 w v2 (xs.getD i z73).f2.length := fun i hi => by
    obtain ⟨cs, hcl, hM, hcc, _⟩ := Kd.R_elem h z73 (i : Int) (by omega) (by omega)
    rw [Int.toNat_natCast] at hM hcc
    obtain ⟨v1, v2, rfl, h1, h2⟩ := k73_openM hM
    refine ⟨v1, v2, ?_, ?_, ?_, rowN_of h1 (fun k hk => hk.1), rowN_of h2 (fun k hk => hk.1)⟩
    · have := hcc 0 _ rfl
      rw [← blk_cell hcur, ← this]; rfl
    · have := hcc 1 _ rfl
      rw [← blk_cell hcur, ← this]; rfl
    · have := hcc 2 _ rfl
      rw [← blk_cell hcur, ← this]; rfl
  refine ⟨g, cur, rfl, hg1, h.1 g rfl, hcur, ?_, fun i hi => ?_⟩
  · obtain ⟨v1, v2, _, _, h3, _⟩ := hc (xs.length - 1) (by omega)
    have := (Array.getElem?_eq_some_iff.1 h3).1
    omega
  · obtain ⟨v1, v2, h1, h2, h3, h4, h5⟩ := hc i hi
    have hb := ((Bool.and_eq_true _ _).mp hs).2
    rw [List.all_eq_true] at hb
    have := hb _ (getD_mem xs i z73 hi)
    rw [Bool.and_eq_true, decide_eq_true_iff, decide_eq_true_iff] at this
    exact ⟨_, v1, v2, _, _, h1, h2, h3, h4, h5, this⟩
def laws_FnExactKeysOf.f (l0_0 : List (S69)) (a0_1 : Int) : Option (Bool) := if l0_0.length ≤ maxLen ∧ ∀ x ∈ l0_0, x.f1.length ≤ maxLen ∧ x.f2.length ≤ maxLen then some true else none
set_option maxHeartbeats 8000000 in
theorem laws_FnExactKeysOf.calls (A0_0 : Option Addr) (c0_0 : Nat) (l0_0 : List (S69)) (a0_1 : Int) (r : Bool) (w : World) (hr0_0 : Kd.C k69 w A0_0 l0_0.length l0_0) (hc0_0 : l0_0.length ≤ c0_0) (h : laws_FnExactKeysOf.f l0_0 a0_1 = some r) :
    Calls Try.prog 5 #[.agg #[.slice A0_0 l0_0.length c0_0, .int .i64 a0_1]] w fun e w' => e = .returned (.bool r) ∧ Below w.heap.size w w' := by
  unfold laws_FnExactKeysOf.f at h
  have hcond : l0_0.length ≤ maxLen ∧ ∀ x ∈ l0_0, x.f1.length ≤ maxLen ∧ x.f2.length ≤ maxLen := by
    by_cases hc : l0_0.length ≤ maxLen ∧ ∀ x ∈ l0_0, x.f1.length ≤ maxLen ∧ x.f2.length ≤ maxLen
    · exact hc
    · rw [if_neg hc] at h; cases h
  rw [if_pos hcond] at h
  obtain rfl := Option.some.inj h
  clear h
  obtain ⟨rs, hsz, hor⟩ := sz_tree l0_0 a0_1 hcond.1 hcond.2
  obtain ⟨ksz, hksz⟩ := hsz.rounds
  have HR := Aside0.mk hr0_0
  have HC := Aside0.mk hc0_0
  have SZ : Aside0 (∀ W : World, Below w.heap.size w W → Calls Try.prog 7 #[.agg #[.slice A0_0 l0_0.length c0_0, .int .i64 a0_1], .int .i64 1048576] W fun e w' => e = .returned (.int .i64 rs) ∧ Below W.heap.size W w') := ⟨fun W hb => laws_szTree.calls ksz A0_0 c0_0 l0_0 a0_1 1048576 rs W (Kd.C_below hr0_0 hb) hc0_0 hksz⟩
  have HB := Aside0.mk (Below.refl w.heap.size w)
  clear hsz hksz hr0_0 hc0_0 hcond
  by_cases hneg : rs < 0
  case pos =>
    clear hor
    have hnb : decide (rs < 0) = true := decide_eq_true hneg
    go_enter Try.func5, Try.ntmps5
    go_wp2_with (first | ((with_reducible refine gate_dst (N := 1) rfl ?_); go_loud (refine box_event ?hg (N := 1) ?hd (cs := #[.slice A0_0 l0_0.length c0_0, .int .i64 a0_1]) (t := 24) ?hr ?_; (case hd => rfl); (case hg => rfl); (case hr => first | (go_simp; done) | (go_simp; rfl)); intro g1 hg w1 hbox hb; have HB1 := Aside0.mk (below_step HB.out hb); have BK1 := Aside0.mk hbox; have hg1_0 : w1.cell? ⟨g1, 0, none⟩ = some (.slice A0_0 l0_0.length c0_0) := (blk_cell hbox 0).trans rfl; have hg1_1 : w1.cell? ⟨g1, 1, none⟩ = some (.int .i64 a0_1) := (blk_cell hbox 1).trans rfl; clear hb hbox hg)) | (go_at_call 7; go_loud (refine (SZ.out _ HB1.out).mono ?_; rintro e w2 ⟨rfl, hb2⟩; have HB2 := Aside0.mk (below_step HB1.out hb2); clear hb2 hg1_0 hg1_1)))
    go_ret
    exact ⟨rfl, HB2.out⟩
  case neg =>
    have hnb : decide (rs < 0) = false := decide_eq_false hneg
    obtain ⟨_, hl, hrow⟩ : 0 ≤ rs ∧ l0_0.length ≤ 1048576 ∧ RowsN l0_0 := by
      rcases hor with h | h
      · exact absurd h hneg
      · exact h
    have hs := szT_of l0_0 hl hrow
    obtain ⟨kto, hkto⟩ := (to_tree l0_0 a0_1 hl hrow).rounds
    obtain ⟨ns, hns⟩ : ∃ ns, l0_0.map convN = ns := ⟨_, rfl⟩
    rw [hns] at hs hkto
    obtain ⟨keq, hkeq⟩ := (eq_tree ns a0_1 hs).rounds
    have hkl := keysV_len ns a0_1
    have TT : Aside0 (∀ W : World, Below w.heap.size w W → Calls Try.prog 9 #[.agg #[.slice A0_0 l0_0.length c0_0, .int .i64 a0_1]] W fun e w' => ∃ v0_ : Value, e = .returned (.agg #[v0_, .int .i64 a0_1]) ∧ Kd.S k73 73 w' W.heap.size (fun _ => True) v0_ ns ∧ Below W.heap.size W w') := ⟨fun W hb => laws_toTree.calls kto A0_0 c0_0 l0_0 a0_1 ns a0_1 W (Kd.C_below HR.out hb) HC.out hkto⟩
    have SK : Aside0 (∀ (W : World) (A : Option Addr) (c : Nat), Kd.C k73 W A ns.length ns → ns.length ≤ c → Calls Try.prog 14 #[.agg #[.slice A ns.length c, .int .i64 a0_1]] W fun e w' => ∃ v0, e = .returned (.tuple #[v0, .bool (keysV (ofF ns a0_1)).2]) ∧ Kd.R (Kd.int .i64) 3 w' W.heap.size (fun _ => True) v0 (keysV (ofF ns a0_1)).1 ∧ Below W.heap.size W w') := ⟨fun W A c hr hc => spec_keys_w A c ns a0_1 W hr hc hs⟩
    have IK : Aside0 (∀ (W : World) (A : Option Addr) (c : Nat), Kd.C k73 W A ns.length ns → ns.length ≤ c → Calls Try.prog 15 #[.agg #[.slice A ns.length c, .int .i64 a0_1]] W fun e w' => ∃ v0, e = .returned (.tuple #[v0, .bool (keysV (ofF ns a0_1)).2]) ∧ Kd.R (Kd.int .i64) 3 w' W.heap.size (fun _ => True) v0 (keysV (ofF ns a0_1)).1 ∧ Below W.heap.size W w') := ⟨fun W A c hr hc => by rw [← good_of]; exact impl_keys_w A c ns a0_1 W hr hc hs⟩
    have ET : Aside0 (∀ (W : World) (A : Option Addr) (c : Nat) (A' : Option Addr) (c' : Nat), Kd.C k73 W A ns.length ns → ns.length ≤ c → Kd.C k73 W A' ns.length ns → ns.length ≤ c' → Calls Try.prog 11 #[.agg #[.slice A ns.length c, .int .i64 a0_1], .agg #[.slice A' ns.length c', .int .i64 a0_1]] W fun e w' => e = .returned (.bool true) ∧ Below W.heap.size W w') := ⟨fun W A c A' c' h1 h2 h3 h4 => laws_eqTree.calls keq A c ns a0_1 A' c' ns a0_1 true W h1 h2 h3 h4 hkeq⟩
    have MT : Aside0 (∀ (W : World) (A : Option Addr) (c N1 N2 : Nat), N1 ≤ N2 → N2 ≤ W.heap.size → Kd.R k73 73 W N1 (fun k => k < N2) (.slice A ns.length c) ns → Calls Try.prog 17 #[.agg #[.slice A ns.length c, .int .i64 a0_1], .int .i64 1] W fun e w' => (∃ r : Int, 0 ≤ r ∧ e = .returned (.int .i64 r)) ∧ MkB N1 N2 W w') := ⟨fun W A c N1 N2 h1 h2 h => markTree_w N1 N2 W A ns.length c a0_1 h1 h2 (fun W' hb => nodesN_of (Kd.R_below h hb) hs) (szT_len hs)⟩
    obtain ⟨KL, hKL⟩ : ∃ KL, (keysV (ofF ns a0_1)).1 = KL := ⟨_, rfl⟩
    obtain ⟨kb, hkb⟩ : ∃ kb, (keysV (ofF ns a0_1)).2 = kb := ⟨_, rfl⟩
    rw [hKL, hkb] at SK IK
    rw [hKL] at hkl
    obtain ⟨kei, hkei⟩ := (eq_ints KL (by omega)).rounds
    obtain ⟨kmi, hkmi⟩ := (mark_ints KL (by omega)).rounds
    obtain ⟨khi, hkhi⟩ := (held_ints KL.length (by omega)).rounds
    have EI : Aside0 (∀ (W : World) (A : Option Addr) (c : Nat) (A' : Option Addr) (c' : Nat), (Kd.int .i64).C W A KL.length KL → KL.length ≤ c → (Kd.int .i64).C W A' KL.length KL → KL.length ≤ c' → Calls Try.prog 16 #[.slice A KL.length c, .slice A' KL.length c'] W fun e w' => e = .returned (.bool true) ∧ Below W.heap.size W w') := ⟨fun W A c A' c' h1 h2 h3 h4 => (laws_eqIntS.calls kei A c KL A' c' KL true W h1 h2 h3 h4 hkei).mono (fun e w' h => ⟨h.1, h.2.below⟩)⟩
    obtain ⟨ML, hML⟩ : ∃ ML, mkI KL.length = ML := ⟨_, rfl⟩
    obtain ⟨mm, hmm⟩ : ∃ mm, ((KL.length + 1 : Nat) : Int) = mm := ⟨_, rfl⟩
    have hmle : ML.length = KL.length := by rw [← hML]; exact mkI_len _
    rw [hML, hmm] at hkmi hkhi
    have HI : Aside0 (∀ (W : World) (A : Option Addr) (c : Nat), (Kd.int .i64).C W A ML.length ML → ML.length ≤ c → Calls Try.prog 19 #[.slice A KL.length c, .int .i64 1] W fun e w' => e = .returned (.int .i64 mm) ∧ Below W.heap.size W w') := ⟨fun W A c h1 h2 => by rw [← hmle]; exact (laws_heldIntS.calls khi A c ML 1 mm W h1 h2 hkhi).mono (fun e w' h => ⟨h.1, h.2.below⟩)⟩
    have MI : Aside0 (∀ (P : Nat → Prop) (v : Value) (w0 W : World), Below w0.heap.size w0 W → (Kd.int .i64).R 3 W w0.heap.size P v KL → Calls Try.prog 18 #[v, .int .i64 1] W fun e w' => e = .returned (.int .i64 mm) ∧ (Kd.int .i64).R 3 w' w0.heap.size (fun k => P k ∨ W.heap.size ≤ k) v ML ∧ Below w0.heap.size w0 w' ∧ Kept W w' P) := ⟨fun P v w0 W h1 h2 => laws_markIntS.calls kmi P v KL 1 mm ML w0 W h1 h2 hkmi⟩
    have hmn : decide (mm < 0) = false := decide_eq_false (by omega)
    have hmn2 : ¬ mm < 0 := by omega
    have HKL := Aside0.mk hkl
    have HMLE := Aside0.mk hmle
    clear hs hkto hkeq hkl hrow hl hor hns hKL hkb hkei hkmi hkhi hML hmm hmle
    go_enter Try.func5, Try.ntmps5
    go_upto_region 5 with (first | ((with_reducible refine gate_dst (N := 1) rfl ?_); go_loud (refine box_event ?hg (N := 1) ?hd (cs := #[.slice A0_0 l0_0.length c0_0, .int .i64 a0_1]) (t := 24) ?hr ?_; (case hd => rfl); (case hg => rfl); (case hr => first | (go_simp; done) | (go_simp; rfl)); intro g1 hg w1 hbox hb; have HB1 := Aside0.mk (below_step HB.out hb); have BK1 := Aside0.mk hbox; have hg1_0 : w1.cell? ⟨g1, 0, none⟩ = some (.slice A0_0 l0_0.length c0_0) := (blk_cell hbox 0).trans rfl; have hg1_1 : w1.cell? ⟨g1, 1, none⟩ = some (.int .i64 a0_1) := (blk_cell hbox 1).trans rfl; clear hb hbox hg)) | (go_at_call 7; go_loud (refine (SZ.out _ HB1.out).mono ?_; rintro e w2 ⟨rfl, hb2⟩; have C2 := Aside0.mk hb2; clear hb2 hg1_0 hg1_1)))
    (try simp only [Act.put, List.setIfInBounds_toArray, List.set_cons_zero, List.set_cons_succ])
    have AT : Aside0 (∀ W : World, Below w1.heap.size w1 W → Below w.heap.size w W) := ⟨fun W h => below_weaken HB1.out (below_size HB1.out) h⟩
    have G1F : Aside0 (∀ W : World, Below w1.heap.size w1 W → W.cell? ⟨g1, 0, none⟩ = some (.slice A0_0 l0_0.length c0_0) ∧ W.cell? ⟨g1, 1, none⟩ = some (.int .i64 a0_1)) := ⟨fun W h => ⟨(blk_cell (blk_below BK1.out h) 0).trans rfl, (blk_cell (blk_below BK1.out h) 1).trans rfl⟩⟩
    obtain ⟨hg1_0, hg1_1⟩ := G1F.out w2 C2.out
    go_upto_region 6 with (first | (go_at_call 9; go_loud (refine (TT.out _ (AT.out _ C2.out)).mono ?_; rintro e w3 ⟨v3, rfl, hs3, hb3⟩; obtain ⟨A3, c3, e3⟩ := Kd.S_slice hs3; subst e3; have C3 := Aside0.mk (below_step C2.out hb3); have H3 := Aside0.mk (Kd.R_reads' (Kd.S_R hs3)); clear hs3 hb3 hg1_0 hg1_1)) | (go_at_call 14; go_loud (refine (SK.out _ _ _ H3.out.2.2 H3.out.2.1).mono ?_; rintro e w4 ⟨v4, rfl, hr4, hb4⟩; obtain ⟨A4, c4, e4⟩ := Kd.R_slice hr4; subst e4; have C4 := Aside0.mk (below_step C3.out hb4); have HO4 := Aside0.mk hr4; clear hr4 hb4)))
    (try simp only [Act.put, List.setIfInBounds_toArray, List.set_cons_zero, List.set_cons_succ])
    have UP4 : Aside0 (∀ W : World, Below w4.heap.size w4 W → Below w1.heap.size w1 W) := ⟨fun W h => below_weaken C4.out (below_size C4.out) h⟩
    obtain ⟨hg1_0, hg1_1⟩ := G1F.out w4 C4.out
    go_upto_region 7 with (first | (go_at_call 9; go_loud (refine (TT.out _ (AT.out _ C4.out)).mono ?_; rintro e w5 ⟨v5, rfl, hs5, hb5⟩; obtain ⟨A5, c5, e5⟩ := Kd.S_slice hs5; subst e5; have D5 := Aside0.mk hb5; have HX5 := Aside0.mk (show Kd.R k73 73 w5 w4.heap.size (fun k => k < w5.heap.size) (.slice A5 ns.length c5) ns from Kd.R_mono (Kd.R_bound (Kd.S_R hs5)) (fun k hk => hk.2.2.1)); clear hs5 hb5 hg1_0 hg1_1)) | ((with_reducible refine gate_dst (N := 6) rfl ?_); go_loud (refine box_event ?hg (N := 6) ?hd (cs := #[.slice none 0 0, .int .i64 0]) (t := 29) ?hr ?_; (case hd => rfl); (case hg => rfl); (case hr => first | (go_simp; done) | (go_simp; rfl)); intro g6 hg w6 hbox hb; have D6 := Aside0.mk (below_step D5.out hb); have F6 := Aside0.mk hb; have BK6 := Aside0.mk hbox; have GE6 := Aside0.mk (show w5.heap.size ≤ g6 by omega); have GD6 := Aside0.mk (show w4.heap.size ≤ g6 by have := below_size D5.out; omega); have hg6_0 : w6.cell? ⟨g6, 0, none⟩ = some (.slice none 0 0) := (blk_cell hbox 0).trans rfl; have fg6_0 := blk_frozen hbox 0; have hg6_1 : w6.cell? ⟨g6, 1, none⟩ = some (.int .i64 0) := (blk_cell hbox 1).trans rfl; have fg6_1 := blk_frozen hbox 1; clear hb hbox hg)) | ((with_reducible refine gate_store (t := 29) (p := 6) rfl ?_); go_loud (refine store_event (t := 29) (p := 6) (v := ?vo) (w1 := ((w6.setCell ⟨g6, 0, none⟩ (.slice A5 ns.length c5)).setCell ⟨g6, 1, none⟩ (.int .i64 a0_1))) ?hg ?ho ?hn ?hr ?_; (case ho => rfl); (case hg => rfl); (case hn => rfl); (case hr => first | (go_simp; done) | (go_simp; rfl)); intro w7 hw; have D7 := Aside0.mk (show Below w4.heap.size w4 w7 by rw [hw]; exact below_set (below_set D6.out GD6.out) GD6.out); have F7 := Aside0.mk (show Below w5.heap.size w5 w7 by rw [hw]; exact below_set (below_set F6.out GE6.out) GE6.out); have BK6' := Aside0.mk (show w7.heap[g6]? = some (.cells #[.slice A5 ns.length c5, .int .i64 a0_1] 29 (0, 0)) by rw [hw]; refine blk_put (cs := #[.slice A5 ns.length c5, .int .i64 0]) ?_ 1 _ rfl; refine blk_put (cs := #[.slice none 0 0, .int .i64 0]) ?_ 0 _ rfl; exact BK6.out); clear BK6; have BK6 := BK6'; clear BK6' hw hg6_0 hg6_1 fg6_0 fg6_1)))
    (try simp only [Act.put, List.setIfInBounds_toArray, List.set_cons_zero, List.set_cons_succ])
    have UP7 : Aside0 (∀ W : World, Below w7.heap.size w7 W → Below w4.heap.size w4 W) := ⟨fun W h => below_weaken D7.out (below_size D7.out) h⟩
    have G6F : Aside0 (∀ W : World, Below w7.heap.size w7 W → W.cell? ⟨g6, 0, none⟩ = some (.slice A5 ns.length c5) ∧ W.cell? ⟨g6, 1, none⟩ = some (.int .i64 a0_1)) := ⟨fun W h => ⟨(blk_cell (blk_below BK6.out h) 0).trans rfl, (blk_cell (blk_below BK6.out h) 1).trans rfl⟩⟩
    have HXF : Aside0 (∀ W : World, Below w7.heap.size w7 W → Kd.R k73 73 W w4.heap.size (fun k => k < w5.heap.size) (.slice A5 ns.length c5) ns) := ⟨fun W h => Kd.R_below HX5.out (below_weaken F7.out (below_size F7.out) h)⟩
    obtain ⟨hg6_0, hg6_1⟩ := G6F.out w7 (Below.refl _ _)
    go_upto_region 8 with (first | (go_at_call 15; go_loud (refine (IK.out _ _ _ (Kd.R_reads' (HXF.out _ (Below.refl _ _))).2.2 (Kd.R_reads' (HXF.out _ (Below.refl _ _))).2.1).mono ?_; rintro e w8 ⟨v8, rfl, hr8, hb8⟩; obtain ⟨A8, c8, e8⟩ := Kd.R_slice hr8; subst e8; have E8 := Aside0.mk hb8; have HO8 := Aside0.mk hr8; clear hr8 hb8 hg6_0 hg6_1)))
    (try simp only [Act.put, List.setIfInBounds_toArray, List.set_cons_zero, List.set_cons_succ])
    have K4 : Aside0 (∀ W : World, Below w4.heap.size w4 W → (Kd.int .i64).C W A4 KL.length KL ∧ KL.length ≤ c4) := ⟨fun W h => ⟨(Kd.R_reads' (Kd.R_below HO4.out h)).2.2, (Kd.R_reads' HO4.out).2.1⟩⟩
    go_upto_region 10 with (first | (go_at_call 16; go_loud (refine (EI.out _ _ _ _ _ (Kd.R_reads' HO8.out).2.2 (Kd.R_reads' HO8.out).2.1 (K4.out _ (UP7.out _ E8.out)).1 (K4.out _ (UP7.out _ E8.out)).2).mono ?_; rintro e w9 ⟨rfl, hb9⟩; have E9 := Aside0.mk (below_step E8.out hb9); have K9 := Aside0.mk hb9; clear hb9)))
    (try simp only [Act.put, List.setIfInBounds_toArray, List.set_cons_zero, List.set_cons_succ])
    have hd9 : Below w7.heap.size w7 w9.drew := below_drew1 E9.out
    have hk9 : Below w9.heap.size w9 w9.drew := below_drew1 (Below.refl _ _)
    refine start_ (n := 5) (S := fun w' => w'.cell? ⟨g6, 0, none⟩ = some (.slice A5 ns.length c5) ∧ w'.cell? ⟨g6, 1, none⟩ = some (.int .i64 a0_1) ∧ w'.cell? ⟨g1, 0, none⟩ = some (.slice A0_0 l0_0.length c0_0) ∧ w'.cell? ⟨g1, 1, none⟩ = some (.int .i64 a0_1)) (ds := []) #[false, false, false, false, false] (by kernel_rfl) rfl rfl ⟨(G6F.out _ (hd9)).1, (G6F.out _ (hd9)).2, (G1F.out _ (UP4.out _ (UP7.out _ (hd9)))).1, (G1F.out _ (UP4.out _ (UP7.out _ (hd9)))).2⟩ (fun hHeld => ?_)
    refine take_ (i := 0) (N := some 41) (v := ?_) (a' := ?_) #[true, false, false, false, false] rfl rfl (by kernel_rfl) (fun _ _ _ h => h) (Or.inl ⟨by rfl, ?_⟩) hHeld ?_ ?_
    rotate_left
    · rintro w' ⟨s0, s1, s2, s3⟩
      go_simp
      with_reducible rfl
    rotate_left
    · simp only [Act.put, List.setIfInBounds_toArray, List.set_cons_zero, List.set_cons_succ, i64_w, i32_w]
      rfl
    refine take_ (i := 1) (N := some 42) (v := ?_) (a' := ?_) #[true, true, false, false, false] rfl rfl (by kernel_rfl) (fun _ _ _ h => h) (Or.inl ⟨by rfl, ?_⟩) hHeld ?_ ?_
    rotate_left
    · rintro w' ⟨s0, s1, s2, s3⟩
      go_simp
      with_reducible rfl
    rotate_left
    · simp only [Act.put, List.setIfInBounds_toArray, List.set_cons_zero, List.set_cons_succ, i64_w, i32_w]
      rfl
    refine one_ (i := 2) (N := some 43) #[true, true, true, false, false] rfl rfl (by kernel_rfl) (by decide) (fun K hK => ?_)
    refine goes_ Try.func9 (by kernel_rfl) rfl #[.agg #[.slice A0_0 l0_0.length c0_0, .int .i64 a0_1]] (by rfl) rfl rfl (by simp only [List.map_toArray, List.map_cons, List.map_nil]; rfl) ?_
    with_reducible refine (TT.out _ (AT.out _ (UP4.out _ (UP7.out _ hd9)))).mono ?_
    rintro e wa ⟨va, rfl, hsa, hba⟩
    refine ⟨_, rfl, ?_⟩
    obtain ⟨Aa, ca, ea⟩ := Kd.S_slice hsa
    subst ea
    have HA := Aside0.mk (Kd.R_reads' (Kd.S_R hsa))
    have EA := Aside0.mk (below_step hd9 hba)
    have KA := Aside0.mk (below_step hk9 hba)
    clear hsa hba
    refine hK.out _ _ ⟨(G6F.out _ (EA.out)).1, (G6F.out _ (EA.out)).2, (G1F.out _ (UP4.out _ (UP7.out _ (EA.out)))).1, (G1F.out _ (UP4.out _ (UP7.out _ (EA.out)))).2⟩ (fun hHeld => ?_)
    clear hK K
    refine norm_ (a' := ?_) ?_ ?_
    rotate_left
    · show Act.put _ (some 43) _ = _
      simp only [Act.put, List.setIfInBounds_toArray, List.set_cons_zero, List.set_cons_succ, i64_w, i32_w]
      rfl
    refine one_ (i := 3) (N := some 44) #[true, true, true, true, false] rfl rfl (by kernel_rfl) (by decide) (fun K hK => ?_)
    refine goes_ Try.func11 (by kernel_rfl) rfl #[.agg #[.slice A5 ns.length c5, .int .i64 a0_1], .agg #[.slice Aa ns.length ca, .int .i64 a0_1]] (by rfl) rfl rfl (by simp only [List.map_toArray, List.map_cons, List.map_nil]; rfl) ?_
    with_reducible refine (ET.out _ _ _ _ _ (Kd.R_reads' (HXF.out _ EA.out)).2.2 (Kd.R_reads' (HXF.out _ EA.out)).2.1 HA.out.2.2 HA.out.2.1).mono ?_
    rintro e wb ⟨rfl, hbb⟩
    refine ⟨_, rfl, ?_⟩
    have EB := Aside0.mk (below_step EA.out hbb)
    have KB := Aside0.mk (below_step KA.out hbb)
    clear hbb
    refine hK.out _ _ ⟨(G6F.out _ (EB.out)).1, (G6F.out _ (EB.out)).2, (G1F.out _ (UP4.out _ (UP7.out _ (EB.out)))).1, (G1F.out _ (UP4.out _ (UP7.out _ (EB.out)))).2⟩ (fun hHeld => ?_)
    clear hK K
    refine norm_ (a' := ?_) ?_ ?_
    rotate_left
    · show Act.put _ (some 44) _ = _
      simp only [Act.put, List.setIfInBounds_toArray, List.set_cons_zero, List.set_cons_succ, i64_w, i32_w]
      rfl
    refine pure_ (i := 4) (N := some 45) (v := ?_) (a' := ?_) #[true, true, true, true, true] rfl rfl (by kernel_rfl) (fun _ _ _ h => h) (Or.inl ⟨by rfl, ?_⟩) ?_ ?_
    rotate_left
    · intro w'
      go_simp
      with_reducible rfl
    rotate_left
    · simp only [Act.put, List.setIfInBounds_toArray, List.set_cons_zero, List.set_cons_succ, i64_w, i32_w]
      rfl
    refine done_ (by kernel_rfl) ?_
    clear hHeld hd9 hk9
    have DB := Aside0.mk (UP7.out _ EB.out)
    have K8 := Aside0.mk (below_step K9.out KB.out)
    obtain ⟨hg6_0, hg6_1⟩ := G6F.out wb EB.out
    have HSZ7 := Aside0.mk (show w5.heap.size ≤ w7.heap.size ∧ w4.heap.size ≤ w7.heap.size from ⟨below_size F7.out, below_size D7.out⟩)
    go_upto_region 14 with (first | (go_at_call 17; go_loud (refine (MT.out wb A5 c5 w4.heap.size w5.heap.size (below_size D5.out) (Nat.le_trans (below_size F7.out) (below_size EB.out)) (HXF.out _ EB.out)).mono ?_; rintro e w11 ⟨⟨rr, hr0, rfl⟩, hk11⟩; have D11 := Aside0.mk (DB.out.trans hk11.1); have HRR := Aside0.mk hr0; have HO11 := Aside0.mk (show (Kd.int .i64).R 3 w11 w7.heap.size (fun k => w7.heap.size ≤ k) (.slice A8 KL.length c8) KL from Kd.R_mono (Kd.R_move (Kd.R_bound (Kd.R_below HO8.out K8.out)) (fun k hk => hk11.2 k (Nat.le_trans HSZ7.out.1 hk.2.1) hk.2.2.1)) (fun k hk => hk.2.1)); clear hr0 hk11 hg6_0 hg6_1)))
    (try simp only [Act.put, List.setIfInBounds_toArray, List.set_cons_zero, List.set_cons_succ])
    have hrn : decide (rr < 0) = false := decide_eq_false (by have := HRR.out; omega)
    have hrn2 : ¬ rr < 0 := of_decide_eq_false hrn
    go_upto_region 17 with (first | (go_at_call 16; go_loud (refine (EI.out _ _ _ _ _ (Kd.R_reads' HO11.out).2.2 (Kd.R_reads' HO11.out).2.1 (K4.out _ D11.out).1 (K4.out _ D11.out).2).mono ?_; rintro e w12 ⟨rfl, hb12⟩; have B12 := Aside0.mk hb12; have D12 := Aside0.mk (below_step D11.out hb12); clear hb12)))
    (try simp only [Act.put, List.setIfInBounds_toArray, List.set_cons_zero, List.set_cons_succ])
    go_upto_region 24 with (first | (go_at_call 18; go_loud (refine (MI.out (fun k => w7.heap.size ≤ k) _ w4 _ D12.out (Kd.R_lower (Kd.R_below HO11.out B12.out) HSZ7.out.2)).mono ?_; rintro e w13 ⟨rfl, hr13, hb13, hk13⟩; have D13 := Aside0.mk hb13; have HO13 := Aside0.mk hr13; clear hr13 hb13 hk13)) | (go_at_call 19; go_loud (refine (HI.out _ _ c8 (Kd.R_reads' HO13.out).2.2 (by rw [HMLE.out]; exact (Kd.R_reads' HO13.out).2.1)).mono ?_; rintro e w14 ⟨rfl, hb14⟩; have B14 := Aside0.mk hb14; have D14 := Aside0.mk (below_step D13.out hb14); clear hb14)))
    (try simp only [Act.put, List.setIfInBounds_toArray, List.set_cons_zero, List.set_cons_succ])
    obtain ⟨hg1_0, hg1_1⟩ := G1F.out w14 (UP4.out _ D14.out)
    go_upto_region 25 with (first | (go_at_call 9; go_loud (refine (TT.out _ (AT.out _ (UP4.out _ D14.out))).mono ?_; rintro e w15 ⟨v15, rfl, hs15, hb15⟩; obtain ⟨A15, c15, e15⟩ := Kd.S_slice hs15; subst e15; have D15 := Aside0.mk (below_step D14.out hb15); have B15 := Aside0.mk (below_step B14.out hb15); have H15 := Aside0.mk (Kd.R_reads' (Kd.S_R hs15)); clear hs15 hb15 hg1_0 hg1_1)) | (go_at_call 15; go_loud (refine (IK.out _ _ _ H15.out.2.2 H15.out.2.1).mono ?_; rintro e w16 ⟨v16, rfl, hr16, hb16⟩; obtain ⟨A16, c16, e16⟩ := Kd.R_slice hr16; subst e16; have D16 := Aside0.mk (below_step D15.out hb16); have B16 := Aside0.mk (below_step B15.out hb16); have HO16 := Aside0.mk hr16; clear hr16 hb16)))
    (try simp only [Act.put, List.setIfInBounds_toArray, List.set_cons_zero, List.set_cons_succ])
    go_upto_region 27 with (first | (go_at_call 16; go_loud (refine (EI.out _ _ _ _ _ (Kd.R_reads' HO16.out).2.2 (Kd.R_reads' HO16.out).2.1 (K4.out _ D16.out).1 (K4.out _ D16.out).2).mono ?_; rintro e w17 ⟨rfl, hb17⟩; have B17 := Aside0.mk (below_step B16.out hb17); have D17 := Aside0.mk (below_step D16.out hb17); clear hb17)))
    (try simp only [Act.put, List.setIfInBounds_toArray, List.set_cons_zero, List.set_cons_succ])
    go_wp2_with (first | (go_at_call 19; go_loud (refine (HI.out _ _ c8 (Kd.R_reads' (Kd.R_below HO13.out B17.out)).2.2 (by rw [HMLE.out]; exact (Kd.R_reads' HO13.out).2.1)).mono ?_; rintro e w18 ⟨rfl, hb18⟩; have D18 := Aside0.mk (below_step D17.out hb18); clear hb18)))
    go_ret
    exact ⟨rfl, AT.out _ (UP4.out _ D18.out)⟩

def okS69 (x : S69) : Prop := (x.f1.length ≤ maxLen ∧ ∀ x_ ∈ x.f1, (Lit.int .i64 x_).wf = true) ∧ (x.f2.length ≤ maxLen ∧ ∀ x_ ∈ x.f2, (Lit.int .i64 x_).wf = true)
/-- The one pure statement of laws_FnExactKeysOf. -/
def laws_FnExactKeysOf.PureG : Prop := ∀ (l0_0 : List (S69)) (a0_1 : Int), (l0_0.length ≤ maxLen ∧ ∀ x_ ∈ l0_0, okS69 x_) → (Lit.int .i64 a0_1).wf = true → laws_FnExactKeysOf.f l0_0 a0_1 = some true

end Go.Proofs.Ytmgbfbpolmbnfaa.PFnExactKeysOf
