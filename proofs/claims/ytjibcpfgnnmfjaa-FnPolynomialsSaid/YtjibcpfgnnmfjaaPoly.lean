/- Polynomials over bytes, as lists of coefficients: values, roots, interpolation (Lagrange) and that it is the only one. -/
import Derived.Test.YtjibcpfgnnmfjaaGF
set_option linter.unusedVariables false
set_option linter.unusedSimpArgs false
namespace Go.Proofs.Ytjibcpfgnnmfjaa.Poly
open Go.Proofs.Ytjibcpfgnnmfjaa.GF

def BL (l : List Nat) : Prop := ∀ c ∈ l, c < 256
theorem BL.nil : BL [] := fun c h => by cases h
theorem BL.cons {c : Nat} {l : List Nat} (h : c < 256) (k : BL l) : BL (c :: l) := fun x hx => by
  rcases List.mem_cons.mp hx with rfl | hx
  · exact h
  · exact k x hx
theorem BL.head {c : Nat} {l : List Nat} (h : BL (c :: l)) : c < 256 := h c (List.mem_cons_self ..)
theorem BL.tail {c : Nat} {l : List Nat} (h : BL (c :: l)) : BL l := fun x hx => h x (List.mem_cons_of_mem _ hx)
theorem BL.getD {l : List Nat} (h : BL l) (i : Nat) : l.getD i 0 < 256 := by
  by_cases hi : i < l.length
  · have := h l[i] (List.getElem_mem hi)
    simpa [List.getD_eq_getElem?_getD, hi] using this
  · simp [List.getD_eq_getElem?_getD, List.getElem?_eq_none (by omega : l.length ≤ i)]
theorem BL.of_sub {l m : List Nat} (h : BL l) (hs : ∀ x ∈ m, x ∈ l) : BL m := fun c hc => h c (hs c hc)

/-- a polynomial's value -/
def ev : List Nat → Nat → Nat
  | [], _ => 0
  | c :: l, x => gm (ev l x) x ^^^ c
theorem ev_lt (l : List Nat) (x : Nat) (h : BL l) : ev l x < 256 := by
  cases l with
  | nil => exact (by decide : (0 : Nat) < 256)
  | cons c l =>
    have : ev l x < 256 := ev_lt l x h.tail
    exact xor_lt _ _ (gm_lt _ _ this) h.head
/-- times x + a, with a carry -/
def rt : Nat → List Nat → Nat → List Nat
  | p, [], _ => [p]
  | p, c :: l, a => (p ^^^ gm c a) :: rt c l a
theorem rt_length (l : List Nat) : ∀ p a, (rt p l a).length = l.length + 1 := by
  induction l with
  | nil => intro p a; rfl
  | cons c l ih => intro p a; simp [rt, ih]
theorem rt_BL (l : List Nat) : ∀ p a, p < 256 → BL l → BL (rt p l a) := by
  induction l with
  | nil => intro p a hp _; exact BL.cons hp BL.nil
  | cons c l ih => intro p a hp h; exact BL.cons (xor_lt _ _ hp (gm_lt _ _ h.head)) (ih c a h.head h.tail)
theorem ev_rt (l : List Nat) : ∀ p a x, p < 256 → a < 256 → x < 256 → BL l → ev (rt p l a) x = p ^^^ gm (ev l x) (x ^^^ a) := by
  induction l with
  | nil =>
    intro p a x hp ha hx _
    show gm 0 x ^^^ p = p ^^^ gm 0 (x ^^^ a)
    rw [zero_gm x hx, zero_gm _ (xor_lt _ _ hx ha), Nat.zero_xor, Nat.xor_zero]
  | cons c l ih =>
    intro p a x hp ha hx h
    have hE := ev_lt l x h.tail
    have hc := h.head
    have hxa := xor_lt _ _ hx ha
    show gm (ev (rt c l a) x) x ^^^ (p ^^^ gm c a) = p ^^^ gm (gm (ev l x) x ^^^ c) (x ^^^ a)
    rw [ih c a x hc ha hx h.tail, gm_left _ _ _ hc (gm_lt _ _ hE), gm_left _ _ _ (gm_lt _ _ hE) hc, gm_right c x a, gm_assoc _ _ _ hE hxa hx, gm_comm (x ^^^ a) x hxa hx, ← gm_assoc _ _ _ hE hx hxa]
    generalize gm (gm (ev l x) x) (x ^^^ a) = u
    generalize gm c x = v
    generalize gm c a = w
    rw [Nat.xor_assoc v u, xor_lc p (u) (v ^^^ w), xor_lc u p w, xor_lc v p (u ^^^ w), xor_lc v u w, xor_lc p u]
theorem xor_eq_zero {a b : Nat} (h : a ^^^ b = 0) : a = b := by
  have : a ^^^ (a ^^^ b) = a := by rw [h, Nat.xor_zero]
  rw [← Nat.xor_assoc, Nat.xor_self, Nat.zero_xor] at this
  exact this.symm

/-! ### A root is taken out -/
def sd : List Nat → Nat → List Nat
  | [], _ => []
  | [_], _ => []
  | _ :: d :: l, a => ev (d :: l) a :: sd (d :: l) a
theorem sd_length : ∀ (l : List Nat) (c a : Nat), (sd (c :: l) a).length = l.length := by
  intro l
  induction l with
  | nil => intro c a; rfl
  | cons d l ih => intro c a; simp [sd, ih]
theorem sd_BL : ∀ (l : List Nat) (c a : Nat), BL (c :: l) → BL (sd (c :: l) a) := by
  intro l
  induction l with
  | nil => intro c a _; exact BL.nil
  | cons d l ih => intro c a h; exact BL.cons (ev_lt _ _ h.tail) (ih d a h.tail)
theorem rt_sd : ∀ (l : List Nat) (c p a : Nat), a < 256 → BL (c :: l) → rt p (sd (c :: l) a) a = (p ^^^ gm (ev l a) a) :: l := by
  intro l
  induction l with
  | nil =>
    intro c p a ha _
    show [p] = [p ^^^ gm 0 a]
    rw [zero_gm a ha, Nat.xor_zero]
  | cons d l ih =>
    intro c p a ha h
    show (p ^^^ gm (ev (d :: l) a) a) :: rt (ev (d :: l) a) (sd (d :: l) a) a = _
    rw [ih d _ a ha h.tail]
    congr 2
    show (gm (ev l a) a ^^^ d) ^^^ gm (ev l a) a = d
    rw [Nat.xor_comm (gm (ev l a) a) d, Nat.xor_assoc, Nat.xor_self, Nat.xor_zero]
theorem root_out (l : List Nat) (c a : Nat) (ha : a < 256) (h : BL (c :: l)) (h0 : ev (c :: l) a = 0) : rt 0 (sd (c :: l) a) a = c :: l := by
  rw [rt_sd l c 0 a ha h, Nat.zero_xor]
  congr 1
  exact xor_eq_zero h0
theorem rt_zeros (n : Nat) : ∀ a, a < 256 → rt 0 (List.replicate n 0) a = List.replicate (n + 1) 0 := by
  induction n with
  | zero => intro a _; rfl
  | succ n ih =>
    intro a ha
    show (0 ^^^ gm 0 a) :: rt 0 (List.replicate n 0) a = 0 :: List.replicate (n + 1) 0
    rw [ih a ha, zero_gm a ha, Nat.xor_zero]
/-- a polynomial of n coefficients with n roots is 0 -/
theorem zero_poly (xs : List Nat) : ∀ l : List Nat, BL l → BL xs → xs.Nodup → l.length = xs.length → (∀ x ∈ xs, ev l x = 0) → l = List.replicate xs.length 0 := by
  induction xs with
  | nil => intro l _ _ _ hl _; exact List.length_eq_zero_iff.mp hl
  | cons a xs ih =>
    intro l hB hX hN hl h
    obtain ⟨c, m, rfl⟩ : ∃ c m, l = c :: m := by
      cases l with
      | nil => simp at hl
      | cons c m => exact ⟨c, m, rfl⟩
    have ha := hX.head
    have e := root_out m c a ha hB (h a (List.mem_cons_self ..))
    have hq := sd_BL m c a hB
    obtain ⟨hna, hN'⟩ := List.nodup_cons.mp hN
    have hz := ih (sd (c :: m) a) hq hX.tail hN' (by rw [sd_length]; simpa using hl) (fun x hx => by
      have h1 := h x (List.mem_cons_of_mem _ hx)
      rw [← e, ev_rt _ 0 a x (by omega) ha (hX.tail x hx) hq, Nat.zero_xor] at h1
      have hx256 := hX.tail x hx
      by_cases h2 : ev (sd (c :: m) a) x = 0
      · exact h2
      · exact absurd h1 (gm_ne _ _ (ev_lt _ _ hq) (xor_lt _ _ hx256 ha) h2 (fun h3 => hna (by rw [← xor_eq_zero h3]; exact hx))))
    rw [← e, hz, rt_zeros _ a ha]
    rfl

/-! ### Sums -/
def addp (o p : List Nat) (b : Nat) : List Nat := List.zipWith (fun u c => u ^^^ gm c b) o p
theorem addp_length (o p : List Nat) (b : Nat) (h : o.length = p.length) : (addp o p b).length = o.length := by simp [addp, h]
theorem addp_BL (o : List Nat) : ∀ (p : List Nat) (b : Nat), BL o → BL p → BL (addp o p b) := by
  induction o with
  | nil => intro p b _ _; simp [addp]; exact BL.nil
  | cons u o ih =>
    intro p b ho hp
    cases p with
    | nil => exact BL.nil
    | cons c p => exact BL.cons (xor_lt _ _ ho.head (gm_lt _ _ hp.head)) (ih p b ho.tail hp.tail)
theorem ev_addp (o : List Nat) : ∀ (p : List Nat) (b x : Nat), b < 256 → x < 256 → BL o → BL p → o.length = p.length → ev (addp o p b) x = ev o x ^^^ gm (ev p x) b := by
  induction o with
  | nil =>
    intro p b x hb hx _ _ hl
    obtain rfl : p = [] := List.length_eq_zero_iff.mp hl.symm
    show 0 = 0 ^^^ gm 0 b
    rw [zero_gm b hb]; rfl
  | cons u o ih =>
    intro p b x hb hx ho hp hl
    cases p with
    | nil => simp at hl
    | cons c p =>
      have hE := ev_lt o x ho.tail
      have hF := ev_lt p x hp.tail
      show gm (ev (addp o p b) x) x ^^^ (u ^^^ gm c b) = (gm (ev o x) x ^^^ u) ^^^ gm (gm (ev p x) x ^^^ c) b
      rw [ih p b x hb hx ho.tail hp.tail (by simpa using hl), gm_left _ _ _ hE (gm_lt _ _ hF), gm_left _ _ _ (gm_lt _ _ hF) hp.head, gm_assoc _ _ _ hF hb hx, gm_comm b x hb hx, ← gm_assoc _ _ _ hF hx hb]
      generalize gm (ev o x) x = s
      generalize gm (gm (ev p x) x) b = t
      generalize gm c b = v
      rw [Nat.xor_assoc s t, Nat.xor_assoc s u, xor_lc t u v]
theorem ev_zeros (n x : Nat) (hx : x < 256) : ev (List.replicate n 0) x = 0 := by
  induction n with
  | zero => rfl
  | succ n ih =>
    show gm (ev (List.replicate n 0) x) x ^^^ 0 = 0
    rw [ih, zero_gm x hx]; rfl
/-- two polynomials of n coefficients that agree at n places are one -/
theorem poly_unique (xs p q : List Nat) (hp : BL p) (hq : BL q) (hX : BL xs) (hN : xs.Nodup) (h1 : p.length = xs.length) (h2 : q.length = xs.length) (h : ∀ x ∈ xs, ev p x = ev q x) : p = q := by
  have hz := zero_poly xs (addp p q 1) (addp_BL p q 1 hp hq) hX hN (by rw [addp_length _ _ _ (by omega)]; exact h1) (fun x hx => by
    rw [ev_addp p q 1 x (by omega) (hX x hx) hp hq (by omega), gm_one _ (ev_lt _ _ hq), h x hx, Nat.xor_self])
  apply List.ext_getElem (by omega)
  intro i hi hi'
  have hl : i < (addp p q 1).length := by rw [addp_length _ _ _ (by omega)]; exact hi
  have hg : (addp p q 1)[i] = 0 := by simp [hz]
  have hg2 : (addp p q 1)[i] = p[i] ^^^ gm q[i] 1 := by simp [addp]
  rw [hg2, gm_one _ (hq _ (List.getElem_mem hi'))] at hg
  exact xor_eq_zero hg

/-! ### Interpolation -/
def lpart (xs : List Nat) : List Nat := xs.foldl (fun p a => rt 0 p a) [1]
def lval (x : Nat) (xs : List Nat) : Nat := xs.foldl (fun v o => gm v (x ^^^ o)) 1
theorem lpart_snoc (xs : List Nat) (a : Nat) : lpart (xs ++ [a]) = rt 0 (lpart xs) a := by simp [lpart, List.foldl_append]
theorem lval_snoc (x : Nat) (xs : List Nat) (a : Nat) : lval x (xs ++ [a]) = gm (lval x xs) (x ^^^ a) := by simp [lval, List.foldl_append]
theorem foldl_snoc_ind {P : List Nat → Prop} (h0 : P []) (h1 : ∀ xs a, P xs → P (xs ++ [a])) (xs : List Nat) : P xs := by
  have : ∀ n, ∀ xs : List Nat, xs.length = n → P xs := by
    intro n
    induction n with
    | zero => intro xs hx; rw [List.length_eq_zero_iff.mp hx]; exact h0
    | succ n ih =>
      intro xs hx
      have hne : xs ≠ [] := fun h => by rw [h] at hx; simp at hx
      rw [← List.dropLast_concat_getLast hne]
      exact h1 _ _ (ih _ (by simp [hx]))
  exact this xs.length xs rfl
theorem lpart_BL (xs : List Nat) : BL xs → BL (lpart xs) := by
  refine foldl_snoc_ind (P := fun xs => BL xs → BL (lpart xs)) (fun _ => BL.cons (by omega) BL.nil) (fun xs a ih h => ?_) xs
  rw [lpart_snoc]
  exact rt_BL _ _ _ (by omega) (ih (h.of_sub fun x hx => List.mem_append_left _ hx))
theorem lpart_length (xs : List Nat) : (lpart xs).length = xs.length + 1 := by
  refine foldl_snoc_ind (P := fun xs => (lpart xs).length = xs.length + 1) rfl (fun xs a ih => ?_) xs
  rw [lpart_snoc, rt_length, ih]; simp
theorem lval_lt (x : Nat) (xs : List Nat) : lval x xs < 256 := by
  refine foldl_snoc_ind (P := fun xs => lval x xs < 256) (show lval x [] < 256 from (show (1 : Nat) < 256 by omega)) (fun xs a ih => ?_) xs
  rw [lval_snoc]; exact gm_lt _ _ ih
theorem ev_lpart (x : Nat) (hx : x < 256) (xs : List Nat) : BL xs → ev (lpart xs) x = lval x xs := by
  refine foldl_snoc_ind (P := fun xs => BL xs → ev (lpart xs) x = lval x xs) (fun _ => ?_) (fun xs a ih h => ?_) xs
  · show gm 0 x ^^^ 1 = 1
    rw [zero_gm x hx]; rfl
  · have h' : BL xs := h.of_sub fun x hx => List.mem_append_left _ hx
    have ha : a < 256 := h a (List.mem_append_right _ (List.mem_singleton.mpr rfl))
    rw [lpart_snoc, lval_snoc, ev_rt _ 0 a x (by omega) ha hx (lpart_BL xs h'), ih h', Nat.zero_xor]
theorem lval_zero (x : Nat) (hx : x < 256) (xs : List Nat) : BL xs → x ∈ xs → lval x xs = 0 := by
  refine foldl_snoc_ind (P := fun xs => BL xs → x ∈ xs → lval x xs = 0) (fun _ h => by cases h) (fun xs a ih h hm => ?_) xs
  have h' : BL xs := h.of_sub fun x hx => List.mem_append_left _ hx
  have ha : a < 256 := h a (List.mem_append_right _ (List.mem_singleton.mpr rfl))
  rw [lval_snoc]
  rcases List.mem_append.mp hm with hm | hm
  · rw [ih h' hm, zero_gm _ (xor_lt _ _ hx ha)]
  · rw [List.mem_singleton.mp hm, Nat.xor_self, gm_zero]
theorem lval_ne (x : Nat) (hx : x < 256) (xs : List Nat) : BL xs → x ∉ xs → lval x xs ≠ 0 := by
  refine foldl_snoc_ind (P := fun xs => BL xs → x ∉ xs → lval x xs ≠ 0) (fun _ _ => show (1 : Nat) ≠ 0 by omega) (fun xs a ih h hm => ?_) xs
  have h' : BL xs := h.of_sub fun x hx => List.mem_append_left _ hx
  have ha : a < 256 := h a (List.mem_append_right _ (List.mem_singleton.mpr rfl))
  rw [lval_snoc]
  exact gm_ne _ _ (lval_lt _ _) (xor_lt _ _ hx ha) (ih h' fun hk => hm (List.mem_append_left _ hk)) (fun h0 => hm (List.mem_append_right _ (List.mem_singleton.mpr (xor_eq_zero h0))))
def outs (xs ys : List Nat) : Nat → List Nat
  | 0 => List.replicate xs.length 0
  | i + 1 => addp (outs xs ys i) (lpart (xs.eraseIdx i)) (gm (ys.getD i 0) (inv (lval (xs.getD i 0) (xs.eraseIdx i))))
theorem erase_BL {xs : List Nat} (h : BL xs) (i : Nat) : BL (xs.eraseIdx i) := h.of_sub fun _ hx => List.mem_of_mem_eraseIdx hx
theorem outs_length (xs ys : List Nat) (i : Nat) : i ≤ xs.length → (outs xs ys i).length = xs.length := by
  induction i with
  | zero => intro _; simp [outs]
  | succ i ih =>
    intro hi
    have := ih (by omega)
    rw [outs, addp_length, this]
    rw [this, lpart_length, List.length_eraseIdx]
    split <;> omega
theorem outs_BL (xs ys : List Nat) (hX : BL xs) (i : Nat) : BL (outs xs ys i) := by
  induction i with
  | zero => intro c hc; rw [List.eq_of_mem_replicate hc]; omega
  | succ i ih => exact addp_BL _ _ _ ih (lpart_BL _ (erase_BL hX i))
theorem getD_mem {xs : List Nat} {j : Nat} (h : j < xs.length) : xs.getD j 0 ∈ xs := by
  rw [List.getD_eq_getElem?_getD]; simp [h]
theorem mem_erase {xs : List Nat} (i j : Nat) (hj : j < xs.length) (hij : i ≠ j) : xs.getD j 0 ∈ xs.eraseIdx i := by
  rw [List.mem_eraseIdx_iff_getElem]
  exact ⟨j, hj, fun h => hij h.symm, by simp [List.getD_eq_getElem?_getD, hj]⟩
theorem not_mem_erase {xs : List Nat} (hN : xs.Nodup) (j : Nat) (hj : j < xs.length) : xs.getD j 0 ∉ xs.eraseIdx j := by
  rw [List.mem_eraseIdx_iff_getElem]
  rintro ⟨i, hi, hne, he⟩
  have he' : xs[i] = xs[j] := by simpa [List.getD_eq_getElem?_getD, hj] using he
  have hp := List.pairwise_iff_getElem.mp hN
  rcases Nat.lt_or_gt_of_ne hne with h | h
  · exact hp i j hi hj h he'
  · exact hp j i hj hi h he'.symm
theorem ev_outs (xs ys : List Nat) (hX : BL xs) (hY : BL ys) (hN : xs.Nodup) (j : Nat) (hj : j < xs.length) (i : Nat) : i ≤ xs.length →
    ev (outs xs ys i) (xs.getD j 0) = if j < i then ys.getD j 0 else 0 := by
  have hxj : xs.getD j 0 < 256 := hX.getD j
  induction i with
  | zero => intro _; rw [outs, ev_zeros _ _ hxj, if_neg (by omega)]
  | succ i ih =>
    intro hi
    have hE := erase_BL hX i
    have hv := lval_lt (xs.getD i 0) (xs.eraseIdx i)
    rw [outs, ev_addp _ _ _ _ (gm_lt _ _ (hY.getD i)) hxj (outs_BL xs ys hX i) (lpart_BL _ hE) (by rw [outs_length _ _ _ (by omega), lpart_length, List.length_eraseIdx]; split <;> omega), ih (by omega), ev_lpart _ hxj _ hE]
    by_cases e : i = j
    · subst e
      have hne := lval_ne (xs.getD i 0) hxj _ hE (not_mem_erase hN i hj)
      rw [if_neg (by omega), if_pos (by omega), Nat.zero_xor, gm_comm _ _ hv (gm_lt _ _ (hY.getD i)), gm_div _ _ (hY.getD i) hv hne]
    · rw [lval_zero _ hxj _ hE (mem_erase i j hj e), zero_gm _ (gm_lt _ _ (hY.getD i)), Nat.xor_zero]
      by_cases h : j < i
      · rw [if_pos h, if_pos (by omega)]
      · rw [if_neg h, if_neg (by omega)]

end Go.Proofs.Ytjibcpfgnnmfjaa.Poly
