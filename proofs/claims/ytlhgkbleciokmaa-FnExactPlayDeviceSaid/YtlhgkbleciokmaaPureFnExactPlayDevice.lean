/- The program's PlayDevice answers as the reference's at all numbers and writes, leaves its arguments, and shares no memory; no condition. -/
import Derived.Test.YtlhgkbleciokmaaQFnExactPlayDevicex9
import Derived.OpenShut
set_option linter.unusedVariables false
set_option linter.unusedSimpArgs false
namespace Go.Proofs.Ytlhgkbleciokmaa.Pure
open Go.RowKit Go.Proofs.Ytlhgkbleciokmaa.PFnExactPlayDevice Go.Proofs.YtlhgkbleciokmaaW.PrintWords Go.Proofs.YtlhgkbleciokmaaW.PrintLast Go.Proofs.YtlhgkbleciokmaaW.PrintMore 

theorem wr64 (n : Nat) (h : n < 2 ^ 62) : wrap64 (n : Int) = (n : Int) := by unfold wrap64; omega
theorem wri (n : Int) (h : 0 ≤ n) (h1 : n < 2 ^ 62) : wrap64 n = n := by unfold wrap64; omega
theorem byte_of {x : Int} (h : (Lit.int .u8 x).wf = true) : ∃ n : Nat, n < 256 ∧ x = (n : Int) := by
  have := bounds_u8 h
  exact ⟨x.toNat, by omega, by omega⟩
theorem shr_nat (b j q : Nat) (hj : j ≤ 8) (hq : q = b / 2 ^ j) : shr .u8 (b : Int) (j : Int) = (q : Int) := by
  unfold shr
  rw [Int.toNat_natCast, Nat.min_eq_left (show j ≤ IntKind.bits .u8 from hj), hq]
  simp
theorem dbl (x : Nat) (hx : x < 256) : wrap64 ((x : Int) * 2) = ((2 * x : Nat) : Int) := by unfold wrap64; omega
theorem inc (j : Nat) (hj : j < 2 ^ 62) : wrap64 ((j : Int) + 1) = ((j + 1 : Nat) : Int) := by unfold wrap64; omega
theorem nn (n : Nat) : ¬ ((n : Int) < 0) := by omega

theorem within_tells (a b c : Int) : impl_within.f a b c = some (decide (a ≥ b ∧ a ≤ c)) := by
  unfold impl_within.f
  split
  · rename_i h; simp [h]
  · rename_i h; simp [h]
theorem l1In_tells (a b c : Int) : spec_l1In.f a b c = some (decide (a ≥ b ∧ a ≤ c)) := by
  unfold spec_l1In.f
  split
  · rename_i h; simp [h]
  · rename_i h; simp [h]

theorem ev_of {α : Type} {g : Nat → Option α} {r : α} (K : Nat) (h : ∀ k, K < k → g k = some r) : Ev g r := ⟨K + 1, fun k hk => h k (by omega)⟩
theorem evp {α : Type} {c : Prop} [Decidable c] {f g : Nat → Option α} {r : α} (h : c) (k : Ev f r) : Ev (fun n => if c then f n else g n) r := Ev.congr (fun _ => if_pos h) k
theorem evn {α : Type} {c : Prop} [Decidable c] {f g : Nat → Option α} {r : α} (h : ¬ c) (k : Ev g r) : Ev (fun n => if c then f n else g n) r := Ev.congr (fun _ => if_neg h) k
theorem ev_some {α β : Type} {a : α} {f : Nat → α → Option β} {r : β} (h : Ev (fun n => f n a) r) : Ev (fun n => (some a).bind (f n)) r := h
theorem ev_to_some {α β : Type} {o : Option α} {a : α} {f : Nat → α → Option β} {r : β} (ho : o = some a) (h : Ev (fun n => f n a) r) : Ev (fun n => o.bind (f n)) r := by subst ho; exact h
theorem maxLen_lt : maxLen < 2 ^ 63 := by decide

theorem gset {α : Type} (z : α) (xs : List α) (i j : Nat) (v : α) (hi : i < xs.length) : (xs.set i v).getD j z = if j = i then v else xs.getD j z := by
  simp only [List.getD_eq_getElem?_getD, List.getElem?_set]
  by_cases h : i = j
  · subst h; simp [hi]
  · rw [if_neg h, if_neg (fun e => h e.symm)]
theorem gext {α : Type} (z : α) {l m : List α} (hl : l.length = m.length) (h : ∀ j, j < l.length → l.getD j z = m.getD j z) : l = m := by
  apply List.ext_getElem hl
  intro j h1 h2
  have := h j h1
  simpa [List.getD_eq_getElem?_getD, h1, h2] using this
theorem rdOf_nat {α : Type} (z : α) (xs : List α) (i : Nat) : rdOf z xs (i : Int) = xs.getD i z := by unfold rdOf; rw [Int.toNat_natCast]
theorem gmem {α : Type} (z : α) {xs : List α} {i : Nat} (h : i < xs.length) : xs.getD i z ∈ xs := by
  rw [List.getD_eq_getElem?_getD]; simp [h]
def Left (B r : Int) : Prop := r < 0 ∨ 0 ≤ r ∧ r ≤ B
theorem eq_strs_l (xs : List ByteArray) (hl : xs.length < 2 ^ 40) (d : Nat) : ∀ (i : Nat), i + d = xs.length → Ev (fun k => laws_eqStringS.l0 k xs xs (i : Int)) true := by
  induction d with
  | zero => intro i hi; exact Ev.step (fun k => by simp only [laws_eqStringS.l0]; rw [if_neg (by omega)]) (Ev.now _)
  | succ d ih =>
    intro i hi
    exact Ev.step (fun k => by
      simp only [laws_eqStringS.l0]
      rw [if_pos (by omega), if_pos (by omega), if_pos (by omega), if_pos True.intro, inc i (by omega)]) (ih (i + 1) (by omega))
theorem eq_strs (xs : List ByteArray) (hl : xs.length < 2 ^ 40) : Ev (fun k => laws_eqStringS.f k xs xs) true := by
  unfold laws_eqStringS.f
  exact evp rfl (eq_strs_l xs hl xs.length 0 (by omega))

def convWrite (x : S38) : S42 := ⟨x.f0, x.f1⟩
theorem rd_write (xs : List S42) (i : Nat) : rd_T42 xs (i : Int) = xs.getD i z42 := by unfold rd_T42; rw [Int.toNat_natCast]
theorem rd0_write (xs : List S38) (i : Nat) : rd_T38 xs (i : Int) = xs.getD i z38 := by unfold rd_T38; rw [Int.toNat_natCast]
theorem to_writes_l (xs : List S38) (hl : xs.length < 2 ^ 40) (d : Nat) : ∀ (ys : List S42) (i : Nat), i + d = xs.length → ys.length = xs.length → (∀ j, j < i → ys.getD j z42 = (xs.map convWrite).getD j z42) →
    Ev (fun k => laws_toWriteS.l0 k xs ys (i : Int)) (xs.map convWrite) := by
  induction d with
  | zero =>
    intro ys i hi hy he
    refine Ev.step (fun k => by simp only [laws_toWriteS.l0]; rw [if_neg (by omega)]) ?_
    rw [gext z42 (l := ys) (m := xs.map convWrite) (by rw [List.length_map]; exact hy) (fun j hj => he j (by omega))]
    exact Ev.now _
  | succ d ih =>
    intro ys i hi hy he
    refine Ev.step (fun k => by
      simp only [laws_toWriteS.l0, laws_toWrite.f, Option.bind_some]
      rw [if_pos (by omega), if_pos (by omega), if_pos (by omega), rd0_write, Int.toNat_natCast, inc i (by omega)]) ?_
    refine ih _ (i + 1) (by omega) (by rw [List.length_set]; exact hy) (fun j hj => ?_)
    rw [gset _ _ _ _ _ (by omega)]
    split
    · rename_i e; subst e
      simp only [List.getD_eq_getElem?_getD, List.getElem?_map, List.getElem?_eq_getElem (show j < xs.length by omega), Option.map_some, Option.getD_some, convWrite]
    · exact he j (by omega)
theorem to_writes (xs : List S38) (hl : xs.length < 2 ^ 40) : Ev (fun k => laws_toWriteS.f k xs) (xs.map convWrite) := by
  unfold laws_toWriteS.f
  exact evp (by omega) (evp (by omega) (to_writes_l xs hl xs.length _ 0 (by omega) (by simp) (fun j hj => by omega)))
theorem eq_writes_l (xs : List S42) (hl : xs.length < 2 ^ 40) (d : Nat) : ∀ (i : Nat), i + d = xs.length → Ev (fun k => laws_eqWriteS.l0 k xs xs (i : Int)) true := by
  induction d with
  | zero => intro i hi; exact Ev.step (fun k => by simp only [laws_eqWriteS.l0]; rw [if_neg (by omega)]) (Ev.now _)
  | succ d ih =>
    intro i hi
    exact Ev.step (fun k => by
      simp only [laws_eqWriteS.l0, laws_eqWrite.f, if_true, Option.bind_some]
      rw [if_pos (by omega), if_pos (by omega), if_pos (by omega), inc i (by omega)]) (ih (i + 1) (by omega))
theorem eq_writes (xs : List S42) (hl : xs.length < 2 ^ 40) : Ev (fun k => laws_eqWriteS.f k xs xs) true := by
  unfold laws_eqWriteS.f
  exact evp rfl (eq_writes_l xs hl xs.length 0 (by omega))

theorem sz_writes_l (xs : List S38) (hl : xs.length < 2 ^ 48) (hs : ∀ x ∈ xs, okS38 x) (B : Int) (hB : B < 2 ^ 40) (d : Nat) : ∀ (i : Nat) (m : Int), i + d = xs.length → 0 ≤ m → m ≤ B →
    ∃ r, Ev (fun k => laws_szWriteS.l0 k xs m (i : Int)) r ∧ Left B r := by
  induction d with
  | zero =>
    intro i m hi h0 h1
    exact ⟨m, Ev.step (fun k => by simp only [laws_szWriteS.l0]; rw [if_neg (by omega)]) (Ev.now _), Or.inr ⟨h0, h1⟩⟩
  | succ d ih =>
    intro i m hi h0 h1
    have hsz := (hs _ (gmem z38 (show i < xs.length by omega))).2
    have hml := maxLen_lt
    have hw : wrap64 (m - (((xs.getD i z38).f1.size : Nat) : Int)) = m - (((xs.getD i z38).f1.size : Nat) : Int) := by unfold wrap64; omega
    by_cases hneg : m - (((xs.getD i z38).f1.size : Nat) : Int) < 0
    · exact ⟨-1, Ev.step (fun k => by simp only [laws_szWriteS.l0, laws_szWrite.f]; rw [if_pos (by omega), if_pos (by omega), rd0_write, hw, if_pos hneg]; simp only [Option.bind_some]; rw [if_pos (by omega)]) (Ev.now _), Or.inl (by omega)⟩
    · obtain ⟨r, h2, h3⟩ := ih (i + 1) (m - (((xs.getD i z38).f1.size : Nat) : Int)) (by omega) (by omega) (by omega)
      exact ⟨r, Ev.step (fun k => by simp only [laws_szWriteS.l0, laws_szWrite.f]; rw [if_pos (by omega), if_pos (by omega), rd0_write, hw, if_neg hneg]; simp only [Option.bind_some]; rw [if_neg hneg, inc i (by omega)]) h2, h3⟩
theorem sz_writes (xs : List S38) (hl : xs.length ≤ maxLen) (hs : ∀ x ∈ xs, okS38 x) (B : Int) (h0 : 0 ≤ B) (hB : B < 2 ^ 40) :
    ∃ r, Ev (fun k => laws_szWriteS.f k xs B) r ∧ (r < 0 ∨ 0 ≤ r ∧ r ≤ B ∧ (xs.length : Int) ≤ B) := by
  have hml := maxLen_lt
  unfold laws_szWriteS.f
  rw [show wrap64 (B - (xs.length : Int)) = B - (xs.length : Int) by unfold wrap64; omega]
  by_cases hneg : B - (xs.length : Int) < 0
  · exact ⟨-1, evp hneg (Ev.now _), Or.inl (by omega)⟩
  · obtain ⟨r, h1, h2⟩ := sz_writes_l xs (by omega) hs (B - (xs.length : Int)) (by omega) xs.length 0 (B - (xs.length : Int)) (by omega) (by omega) (by omega)
    refine ⟨r, evn hneg h1, ?_⟩
    unfold Left at h2; omega

theorem eq_device (xs : List ByteArray) (ws : List S42) (hl : xs.length < 2 ^ 40) (hw : ws.length < 2 ^ 40) : Ev (fun k => laws_eqDevice.f k xs ws xs ws) true :=
  Ev.bind (eq_strs xs hl) (evp rfl (Ev.bind (eq_writes ws hw) (evp rfl (Ev.now _))))
theorem spec_good1 (xs : List ByteArray) (ws : List S42) (hl : xs.length < 2 ^ 40) (hw : ws.length < 2 ^ 40) (d : Nat) : ∀ (i : Nat), i + d = ws.length →
    Ev (fun k => spec_GoodDevice.l1 k ws (ws.length : Int) (i : Int) xs ws) (!((ws.drop i).any (badWrite xs.length)) && (decide (1 ≤ xs.length ∧ xs.length ≤ 32) && decide (ws.length ≤ 60))) := by
  induction d with
  | zero =>
    intro i hi
    rw [List.drop_eq_nil_of_le (by omega)]
    refine Ev.step (fun k => by simp only [spec_GoodDevice.l1]; rw [if_neg (by omega), l1In_tells]) ?_
    refine ev_some ?_
    by_cases h : 1 ≤ xs.length ∧ xs.length ≤ 32
    · refine evp (decide_eq_true (by omega)) ?_
      rw [decide_eq_true h]
      simp only [List.any_nil, Bool.not_false, Bool.true_and]
      exact Ev.congr (fun _ => by congr 1; rw [decide_eq_decide]; omega) (Ev.now _)
    · refine evn (by rw [decide_eq_true_eq]; omega) ?_
      rw [decide_eq_false h]
      exact Ev.now _
  | succ d ih =>
    intro i hi
    have hlt : i < ws.length := by omega
    rw [List.drop_eq_getElem_cons hlt, List.any_cons]
    have hg : ws.getD i z42 = ws[i] := by rw [List.getD_eq_getElem?_getD, List.getElem?_eq_getElem hlt]; rfl
    have hw1 : wrap64 ((xs.length : Int) - 1) = (xs.length : Int) - 1 := by unfold wrap64; omega
    have hb : spec_l1Write.f (ws[i]).f0 (ws[i]).f1 (xs.length : Int) = some (!(badWrite xs.length ws[i])) := by
      unfold spec_l1Write.f badWrite
      rw [hw1, l1In_tells]
      simp only [Option.bind_some]
      generalize decide ((ws[i]).f0 ≥ 0 ∧ (ws[i]).f0 ≤ (xs.length : Int) - 1) = b
      cases b
      · rfl
      · simp [bne]
    have hst : ∀ k, spec_GoodDevice.l1 (k + 1) ws (ws.length : Int) (i : Int) xs ws = if (!(badWrite xs.length ws[i])) = true then spec_GoodDevice.l1 k ws (ws.length : Int) ((i + 1 : Nat) : Int) xs ws else some false := fun k => by
      simp only [spec_GoodDevice.l1]
      rw [if_pos (by omega), if_pos (by omega), if_pos (by omega), rd_write, hg, hb, Option.bind_some, inc i (by omega)]
    refine Ev.step hst ?_
    cases hbw : badWrite xs.length ws[i]
    · exact evp rfl (by simpa using ih (i + 1) (by omega))
    · exact evn (by decide) (Ev.now _)
theorem spec_good0 (xs : List ByteArray) (ws : List S42) (hl : xs.length < 2 ^ 40) (hw : ws.length < 2 ^ 40) (d : Nat) : ∀ (i : Nat), i + d = xs.length →
    Ev (fun k => spec_GoodDevice.l0 k xs (xs.length : Int) (i : Int) xs ws) (!((xs.drop i).any (fun s => (s.size : Int) != 8)) && (!(ws.any (badWrite xs.length)) && (decide (1 ≤ xs.length ∧ xs.length ≤ 32) && decide (ws.length ≤ 60)))) := by
  induction d with
  | zero =>
    intro i hi
    rw [List.drop_eq_nil_of_le (by omega)]
    exact Ev.step (fun k => by simp only [spec_GoodDevice.l0]; rw [if_neg (by omega)]) (by simpa using spec_good1 xs ws hl hw ws.length 0 (by omega))
  | succ d ih =>
    intro i hi
    have hlt : i < xs.length := by omega
    rw [List.drop_eq_getElem_cons hlt, List.any_cons]
    have hg : xs.getD i ByteArray.empty = xs[i] := by rw [List.getD_eq_getElem?_getD, List.getElem?_eq_getElem hlt]; rfl
    have hst : ∀ k, spec_GoodDevice.l0 (k + 1) xs (xs.length : Int) (i : Int) xs ws = if ((xs[i]).size : Int) = 8 then spec_GoodDevice.l0 k xs (xs.length : Int) ((i + 1 : Nat) : Int) xs ws else some false := fun k => by
      simp only [spec_GoodDevice.l0]
      rw [if_pos (by omega), if_pos (by omega), if_pos (by omega), rdOf_nat, hg, inc i (by omega)]
    refine Ev.step hst ?_
    by_cases hb : ((xs[i]).size : Int) = 8
    · refine evp hb ?_
      have := ih (i + 1) (by omega)
      rw [show (((xs[i]).size : Int) != 8) = false by rw [hb]; rfl, Bool.false_or]
      exact this
    · refine evn hb ?_
      rw [show (((xs[i]).size : Int) != 8) = true by simpa using hb]
      exact Ev.now _
theorem spec_goodD (xs : List ByteArray) (ws : List S42) (hl : xs.length < 2 ^ 40) (hw : ws.length < 2 ^ 40) : Ev (fun k => spec_GoodDevice.f k xs ws) (goodD xs ws) := by
  have h := spec_good0 xs ws hl hw xs.length 0 (by omega)
  have e : goodD xs ws = (!((xs.drop 0).any (fun s => (s.size : Int) != 8)) && (!(ws.any (badWrite xs.length)) && (decide (1 ≤ xs.length ∧ xs.length ≤ 32) && decide (ws.length ≤ 60)))) := by
    unfold goodD
    rw [List.drop_zero]
    generalize decide (1 ≤ xs.length ∧ xs.length ≤ 32) = a
    generalize decide (ws.length ≤ 60) = b
    generalize (xs.any fun s => (s.size : Int) != 8) = c
    generalize ws.any (badWrite xs.length) = d
    cases a <;> cases b <;> cases c <;> cases d <;> rfl
  rw [e]
  exact h
theorem impl_goodD (xs : List ByteArray) (ws : List S42) : impl_GoodDevice.f xs ws = some (goodD xs ws) := rfl
theorem conv_len (ws : List S38) (hw : ws.length < 2 ^ 40) : (ws.map convWrite).length < 2 ^ 40 := by rw [List.length_map]; exact hw

/-- a write on one of n sectors -/
def okW (n : Nat) (s : S42) : Prop := 0 ≤ s.f0 ∧ s.f0 < (n : Int)
theorem good_valid {xs : List ByteArray} {ws : List S42} (h : goodD xs ws = true) : (1 ≤ xs.length ∧ xs.length ≤ 32) ∧ ws.length ≤ 60 ∧ (∀ x ∈ xs, x.size = 8) ∧ ∀ s ∈ ws, okW xs.length s ∧ s.f1.size = 8 := by
  unfold goodD at h
  simp only [Bool.and_eq_true, decide_eq_true_eq, Bool.not_eq_true', List.any_eq_false] at h
  obtain ⟨h1, h2, h3, h4⟩ := h
  refine ⟨h1, h2, fun x hx => ?_, fun s hs => ?_⟩
  · have := h3 x hx
    simp only [bne_iff_ne, ne_eq, Decidable.not_not] at this
    omega
  · have := h4 s hs
    unfold badWrite at this
    simp only [Bool.or_eq_true, Bool.not_eq_true', decide_eq_false_iff_not, bne_iff_ne, ne_eq, not_or, Decidable.not_not] at this
    unfold okW
    omega
/-- the sectors behind those writes that are kept -/
def doneP (p : Int → Bool) : List S42 → Int → List ByteArray → List ByteArray
  | [], _, o => o
  | s :: l, i, o => doneP p l (i + 1) (if p i = true then o.set s.f0.toNat s.f1 else o)
theorem doneP_len (p : Int → Bool) : ∀ (ws : List S42) (i : Int) (o : List ByteArray), (doneP p ws i o).length = o.length
  | [], _, _ => rfl
  | s :: l, i, o => by
    rw [doneP, doneP_len p l]
    split
    · rw [List.length_set]
    · rfl
theorem doneP_any (ws : List S42) : ∀ (i j : Int) (o : List ByteArray), doneP (fun _ => true) ws i o = doneP (fun _ => true) ws j o := by
  induction ws with
  | nil => intro i j o; rfl
  | cons s l ih => intro i j o; rw [doneP, doneP]; exact ih _ _ _
theorem perf_done (p : Int → Bool) : ∀ (ws : List S42) (i : Int) (o : List ByteArray), (∀ s ∈ ws, okW o.length s) → perfL p ws i o = some (doneP p ws i o)
  | [], _, _, _ => rfl
  | s :: l, i, o, h => by
    have h0 := h s List.mem_cons_self
    unfold okW at h0
    rw [perfL, doneP]
    by_cases hp : p i = true
    · rw [if_pos hp, if_pos hp, if_pos h0.1, if_pos h0.2]
      exact perf_done p l _ _ (fun t ht => by rw [List.length_set]; exact h t (List.mem_cons_of_mem _ ht))
    · rw [if_neg hp, if_neg hp]
      exact perf_done p l _ _ (fun t ht => h t (List.mem_cons_of_mem _ ht))
theorem l1done_l (ws : List S42) (n : Nat) (hw : ws.length < 2 ^ 40) (h : ∀ s ∈ ws, okW n s) (d : Nat) : ∀ (i : Nat) (o : List ByteArray), i + d = ws.length → o.length = n →
    Ev (fun k => spec_l1Done.l0 k o ws (ws.length : Int) (i : Int)) (doneP (fun _ => true) (ws.drop i) 0 o) := by
  induction d with
  | zero =>
    intro i o hi ho
    rw [List.drop_eq_nil_of_le (by omega), doneP]
    exact Ev.step (fun k => by simp only [spec_l1Done.l0]; rw [if_neg (by omega)]) (Ev.now _)
  | succ d ih =>
    intro i o hi ho
    have hlt : i < ws.length := by omega
    have hg : ws.getD i z42 = ws[i] := by rw [List.getD_eq_getElem?_getD, List.getElem?_eq_getElem hlt]; rfl
    have h0 := h ws[i] (List.getElem_mem hlt)
    unfold okW at h0
    rw [List.drop_eq_getElem_cons hlt, doneP, doneP_any _ _ 0, if_pos rfl]
    refine Ev.step (fun k => by
      simp only [spec_l1Done.l0]
      rw [if_pos (by omega), if_pos (by omega), if_pos (by omega), rd_write, hg, if_pos h0.1, if_pos (by omega), inc i (by omega)]) ?_
    exact ih (i + 1) _ (by omega) (by rw [List.length_set]; exact ho)
theorem l1done (xs : List ByteArray) (ws : List S42) (hx : xs.length < 2 ^ 40) (hw : ws.length < 2 ^ 40) (h : ∀ s ∈ ws, okW xs.length s) : Ev (fun k => spec_l1Done.f k xs ws) (doneP (fun _ => true) ws 0 xs) := by
  unfold spec_l1Done.f
  refine ev_some (evp (by simp only [List.length_nil]; omega) ?_)
  have := l1done_l ws xs.length hw h ws.length 0 xs (by omega) rfl
  rwa [List.drop_zero] at this
theorem clone_str (xs : List ByteArray) (hx : xs.length < 2 ^ 40) : slices_Clone_string_string.f xs = some xs := by
  unfold slices_Clone_string_string.f
  rw [if_pos (by omega)]

def zt : ByteArray := strOfNums (List.replicate 8 0)
theorem rep_zt : strings_Repeat.f (⟨#[0]⟩ : ByteArray) 8 = some zt := by unfold strings_Repeat.f; rw [if_pos (by decide)]; rfl
theorem zt_size : zt.size = 8 := rfl
theorem new_l (m : Nat) (hm : m ≤ 32) (z : ByteArray) (hz : spec_l1Zeros.f 8 = some z) (d : Nat) : ∀ (i : Nat) (o : List ByteArray), i + d = m → o.length = i → (∀ x ∈ o, x = z) → ∃ xs, Ev (fun k => spec_NewDevice.l0 k (m : Int) (i : Int) o) (xs, [], true) ∧ xs.length = m ∧ ∀ x ∈ xs, x = z := by
  induction d with
  | zero => intro i o hi ho hx; exact ⟨o, Ev.step (fun k => by simp only [spec_NewDevice.l0]; rw [if_neg (by omega)]) (Ev.now _), by omega, hx⟩
  | succ d ih =>
    intro i o hi ho hx
    obtain ⟨xs, e, h⟩ := ih (i + 1) (o ++ [z]) (by omega) (by rw [List.length_append]; simp only [List.length_cons, List.length_nil]; omega) (fun x h => by
      rcases List.mem_append.mp h with h | h
      · exact hx x h
      · exact List.mem_singleton.mp h)
    exact ⟨xs, Ev.step (fun k => by simp only [spec_NewDevice.l0]; rw [if_pos (by omega), hz]; simp only [Option.bind_some]; rw [if_pos (by omega), inc i (by omega)]) e, h⟩
theorem both_NewDevice (n : Int) : ∃ (xs : List ByteArray) (ok : Bool), xs.length ≤ 32 ∧ (∀ x ∈ xs, x = zt) ∧ (ok = true → 1 ≤ xs.length) ∧ Ev (fun k => spec_NewDevice.f k n) (xs, [], ok) ∧ impl_NewDevice.f n = some (xs, [], ok) := by
  by_cases h : n ≥ 1 ∧ n ≤ 32
  · obtain ⟨m, rfl⟩ : ∃ m : Nat, n = (m : Int) := ⟨n.toNat, by omega⟩
    have hz : spec_l1Zeros.f 8 = some zt := by unfold spec_l1Zeros.f; rw [if_pos (by omega), if_pos (by decide)]; rfl
    obtain ⟨xs, e, hl, hx⟩ := new_l m (by omega) _ hz m 0 [] (by omega) rfl (by simp)
    obtain rfl : xs = List.replicate m zt := List.eq_replicate_iff.mpr ⟨hl, hx⟩
    refine ⟨List.replicate m zt, true, by omega, hx, fun _ => by omega, ?_, ?_⟩
    · unfold spec_NewDevice.f
      exact ev_to_some (l1In_tells _ _ _) (evp (decide_eq_true h) e)
    · unfold impl_NewDevice.f
      rw [within_tells, decide_eq_true h]
      simp only [Option.bind_some]
      rw [if_pos trivial, rep_zt]
      simp only [Option.bind_some]
      unfold slices_Repeat_string_string.f
      rw [if_pos ⟨rfl, h⟩]
      rfl
  · refine ⟨[], false, by simp, by simp, by simp, ?_, ?_⟩
    · unfold spec_NewDevice.f
      exact ev_to_some (l1In_tells _ _ _) (evn (by rw [decide_eq_false h]; decide) (Ev.now _))
    · unfold impl_NewDevice.f
      rw [within_tells, decide_eq_false h]
      rfl

theorem both_FlushDevice (xs : List ByteArray) (ws : List S42) (hx : xs.length < 2 ^ 40) (hw : ws.length < 2 ^ 40) :
    ∃ (rx : List ByteArray) (rw : List S42) (ok : Bool), rx.length < 2 ^ 40 ∧ rw.length < 2 ^ 40 ∧ Ev (fun k => spec_FlushDevice.f k xs ws) (rx, rw, ok) ∧ impl_FlushDevice.f xs ws = some (rx, rw, ok) := by
  have hs := spec_goodD xs ws hx hw
  unfold spec_FlushDevice.f impl_FlushDevice.f
  cases hg : goodD xs ws with
  | false =>
    rw [hg] at hs
    exact ⟨[], [], false, by simp, by simp, Ev.bind hs (evn (by decide) (Ev.now _)), rfl⟩
  | true =>
    rw [hg] at hs
    obtain ⟨g1, g2, g3, g4⟩ := good_valid hg
    have hv : ∀ s ∈ ws, okW xs.length s := fun s hs => (g4 s hs).1
    refine ⟨doneP (fun _ => true) ws 0 xs, [], true, by rw [doneP_len]; exact hx, by simp, Ev.bind hs (evp rfl (Ev.bind (l1done xs ws hx hw hv) (Ev.now _))), ?_⟩
    rw [if_pos rfl, clone_str xs hx]; simp only [Option.bind_some]; rw [perf_done _ ws 0 xs hv]; rfl

theorem good_snoc {xs : List ByteArray} {ws : List S42} (h : goodD xs ws = true) (w : S42) : goodD xs (ws ++ [w]) = (decide (ws.length + 1 ≤ 60) && !(badWrite xs.length w)) := by
  unfold goodD at *
  simp only [Bool.and_eq_true] at h
  obtain ⟨h1, h2, h3, h4⟩ := h
  rw [h1, h3, List.any_append]
  simp only [Bool.not_eq_true'] at h4
  rw [h4]
  simp
theorem clone_w (ws : List S42) (hw : ws.length < 2 ^ 40) : impl_Write.f ws = some ws := by unfold impl_Write.f; rw [if_pos (by omega)]
theorem l1write (xs : List ByteArray) (n : Int) (s : ByteArray) (hx : xs.length < 2 ^ 40) : spec_l1Write.f n s (xs.length : Int) = some (!(badWrite xs.length ⟨n, s⟩)) := by
  have hw1 : wrap64 ((xs.length : Int) - 1) = (xs.length : Int) - 1 := by unfold wrap64; omega
  unfold spec_l1Write.f badWrite
  rw [hw1, l1In_tells]
  simp only [Option.bind_some]
  generalize decide (n ≥ 0 ∧ n ≤ (xs.length : Int) - 1) = b
  cases b
  · rfl
  · simp [bne]
theorem both_WriteSector (xs : List ByteArray) (ws : List S42) (n : Int) (s : ByteArray) (hx : xs.length < 2 ^ 40) (hw : ws.length < 2 ^ 40) :
    ∃ (rx : List ByteArray) (rw : List S42) (ok : Bool), rx.length < 2 ^ 40 ∧ rw.length < 2 ^ 40 ∧ Ev (fun k => spec_WriteSector.f k xs ws n s) (rx, rw, ok) ∧ impl_WriteSector.f xs ws n s = some (rx, rw, ok) := by
  have hs := spec_goodD xs ws hx hw
  have hi : impl_WriteSector.f xs ws n s = if goodD xs ws = true then (if goodD xs (ws ++ [⟨n, s⟩]) = true then some (xs, ws ++ [⟨n, s⟩], true) else some ([], [], false)) else some ([], [], false) := by
    unfold impl_WriteSector.f
    rw [clone_str xs hx, clone_w ws hw]
    simp only [Option.bind_some, List.length_cons, List.length_nil]
    rw [if_pos (by omega)]
    rfl
  rw [hi]
  unfold spec_WriteSector.f
  cases hg : goodD xs ws with
  | false =>
    rw [hg] at hs
    exact ⟨[], [], false, by simp, by simp, Ev.bind hs (evn (by decide) (Ev.now _)), rfl⟩
  | true =>
    rw [hg] at hs
    have h60 := (good_valid hg).2.1
    have hsn := good_snoc hg ⟨n, s⟩
    rw [if_pos rfl, hsn]
    cases hb : badWrite xs.length ⟨n, s⟩ with
    | true =>
      refine ⟨[], [], false, by simp, by simp, Ev.bind hs (evp rfl (ev_to_some (l1write xs n s hx) ?_)), by rw [Bool.not_true, Bool.and_false]; rfl⟩
      rw [hb]
      exact evn (by decide) (Ev.now _)
    | false =>
      by_cases h : ws.length + 1 ≤ 60
      · refine ⟨xs, ws ++ [⟨n, s⟩], true, hx, by rw [List.length_append]; simp; omega, Ev.bind hs (evp rfl (ev_to_some (l1write xs n s hx) ?_)), by rw [decide_eq_true h]; rfl⟩
        rw [hb]
        refine evp rfl (evn (by omega) (ev_to_some (a := (xs, ws)) ?_ (evp (show ws.length < 5864062014805 by omega) (Ev.now _))))
        unfold spec_l1Own.f
        simp only [Option.bind_some, List.nil_append, List.length_nil]
        rw [if_pos (by omega), if_pos (by omega)]
      · refine ⟨[], [], false, by simp, by simp, Ev.bind hs (evp rfl (ev_to_some (l1write xs n s hx) ?_)), by rw [decide_eq_false h]; rfl⟩
        rw [hb]
        exact evp rfl (evp (by omega) (Ev.now _))

theorem play_l (l : List S42) (hl : l.length < 2 ^ 40) (d : Nat) : ∀ (i : Nat) (xs : List ByteArray) (ws : List S42), i + d = l.length → xs.length < 2 ^ 40 → ws.length < 2 ^ 40 →
    ∃ (rx : List ByteArray) (rw_ : List S42) (ok : Bool), rx.length < 2 ^ 40 ∧ rw_.length < 2 ^ 40 ∧ Ev (fun k => spec_PlayDevice.l0 k l (l.length : Int) (i : Int) xs ws) (rx, rw_, ok) ∧ Ev (fun k => impl_PlayDevice.l0 k l (l.length : Int) (i : Int) xs ws) (rx, rw_, ok) := by
  induction d with
  | zero =>
    intro i xs ws hi hx hw
    exact ⟨xs, ws, true, hx, hw, Ev.step (fun k => by simp only [spec_PlayDevice.l0]; rw [if_neg (by omega)]) (Ev.now _), Ev.step (fun k => by simp only [impl_PlayDevice.l0]; rw [if_neg (by omega)]) (Ev.now _)⟩
  | succ d ih =>
    intro i xs ws hi hx hw
    have J : ∀ b : Bool, ∃ (rx : List ByteArray) (rw_ : List S42) (ok : Bool), rx.length < 2 ^ 40 ∧ rw_.length < 2 ^ 40 ∧ Ev (fun k => spec_PlayDevice.j2 k l (l.length : Int) (i : Int) b xs ws (rd_T42 l (i : Int)).f0 (rd_T42 l (i : Int)).f1) (rx, rw_, ok) ∧ Ev (fun k => impl_PlayDevice.j2 k l (l.length : Int) (i : Int) b xs ws (rd_T42 l (i : Int)).f0 (rd_T42 l (i : Int)).f1) (rx, rw_, ok) := by
      intro b
      cases b with
      | false =>
        obtain ⟨yx, yw, ok, hyx, hyw, e1, e2⟩ := both_WriteSector xs ws (rd_T42 l (i : Int)).f0 (rd_T42 l (i : Int)).f1 hx hw
        cases ok with
        | false =>
          exact ⟨[], [], false, by simp, by simp, Ev.step (fun k => by simp only [spec_PlayDevice.j2]; rw [if_neg (by decide)]) (Ev.bind e1 (evn Bool.false_ne_true (Ev.now _))), Ev.step (fun k => by simp only [impl_PlayDevice.j2]; rw [if_neg (by decide)]) (ev_to_some e2 (evn Bool.false_ne_true (Ev.now _)))⟩
        | true =>
          obtain ⟨rx, rw_, ok, h1, h2, s1, s2⟩ := ih (i + 1) yx yw (by omega) hyx hyw
          exact ⟨rx, rw_, ok, h1, h2, Ev.step (fun k => by simp only [spec_PlayDevice.j2]; rw [if_neg (by decide), inc i (by omega)]) (Ev.bind e1 (evp rfl s1)), Ev.step (fun k => by simp only [impl_PlayDevice.j2]; rw [if_neg (by decide), inc i (by omega)]) (ev_to_some e2 (evp rfl s2))⟩
      | true =>
        obtain ⟨yx, yw, ok, hyx, hyw, e1, e2⟩ := both_FlushDevice xs ws hx hw
        cases ok with
        | false =>
          exact ⟨[], [], false, by simp, by simp, Ev.step (fun k => by simp only [spec_PlayDevice.j2]; rw [if_pos trivial]) (Ev.bind e1 (evn Bool.false_ne_true (Ev.now _))), Ev.step (fun k => by simp only [impl_PlayDevice.j2]; rw [if_pos trivial]) (ev_to_some e2 (evn Bool.false_ne_true (Ev.now _)))⟩
        | true =>
          obtain ⟨rx, rw_, ok, h1, h2, s1, s2⟩ := ih (i + 1) yx yw (by omega) hyx hyw
          exact ⟨rx, rw_, ok, h1, h2, Ev.step (fun k => by simp only [spec_PlayDevice.j2]; rw [if_pos trivial, inc i (by omega)]) (Ev.bind e1 (evp rfl s1)), Ev.step (fun k => by simp only [impl_PlayDevice.j2]; rw [if_pos trivial, inc i (by omega)]) (ev_to_some e2 (evp rfl s2))⟩
    by_cases hn : (rd_T42 l (i : Int)).f0 = -1
    · obtain ⟨rx, rw_, ok, h1, h2, s1, s2⟩ := J ((rd_T42 l (i : Int)).f1.toList == ([] : List UInt8))
      exact ⟨rx, rw_, ok, h1, h2, Ev.step (fun k => by simp only [spec_PlayDevice.l0]; rw [if_pos (by omega), if_pos (by omega), if_pos (by omega), if_pos hn]) s1, Ev.step (fun k => by simp only [impl_PlayDevice.l0]; rw [if_pos (by omega), if_pos (by omega), if_pos (by omega), if_pos hn]) s2⟩
    · obtain ⟨rx, rw_, ok, h1, h2, s1, s2⟩ := J false
      exact ⟨rx, rw_, ok, h1, h2, Ev.step (fun k => by simp only [spec_PlayDevice.l0]; rw [if_pos (by omega), if_pos (by omega), if_pos (by omega), if_neg hn]) s1, Ev.step (fun k => by simp only [impl_PlayDevice.l0]; rw [if_pos (by omega), if_pos (by omega), if_pos (by omega), if_neg hn]) s2⟩
theorem both_PlayDevice (n : Int) (l : List S42) (hl : l.length < 2 ^ 40) :
    ∃ (rx : List ByteArray) (rw_ : List S42) (ok : Bool), rx.length < 2 ^ 40 ∧ rw_.length < 2 ^ 40 ∧ Ev (fun k => spec_PlayDevice.f k n l) (rx, rw_, ok) ∧ Ev (fun k => impl_PlayDevice.f k n l) (rx, rw_, ok) := by
  obtain ⟨xs, ok, hx, _, _, e1, e2⟩ := both_NewDevice n
  unfold spec_PlayDevice.f impl_PlayDevice.f
  cases ok with
  | false =>
    exact ⟨[], [], false, by simp, by simp, Ev.bind e1 (evn Bool.false_ne_true (Ev.step (fun k => by simp only [spec_PlayDevice.j0]; rw [if_pos trivial]) (Ev.now _))), ev_to_some e2 (evn Bool.false_ne_true (Ev.step (fun k => by simp only [impl_PlayDevice.j0]; rw [if_pos trivial]) (Ev.now _)))⟩
  | true =>
    by_cases h : (l.length : Int) > 200
    · exact ⟨[], [], false, by simp, by simp, Ev.bind e1 (evp rfl (Ev.step (fun k => by simp only [spec_PlayDevice.j0]; rw [if_pos (decide_eq_true h)]) (Ev.now _))), ev_to_some e2 (evp rfl (Ev.step (fun k => by simp only [impl_PlayDevice.j0]; rw [if_pos (decide_eq_true h)]) (Ev.now _)))⟩
    · obtain ⟨rx, rw_, ok, h1, h2, s1, s2⟩ := play_l l hl l.length 0 xs [] (by omega) (by omega) (by simp)
      have s1 : Ev (fun k => spec_PlayDevice.l0 k l (l.length : Int) 0 xs []) (rx, rw_, ok) := s1
      have s2 : Ev (fun k => impl_PlayDevice.l0 k l (l.length : Int) 0 xs []) (rx, rw_, ok) := s2
      exact ⟨rx, rw_, ok, h1, h2, Ev.bind e1 (evp rfl (Ev.step (fun k => by simp only [spec_PlayDevice.j0]; rw [if_neg (by simpa using h)]) s1)), ev_to_some e2 (evp rfl (Ev.step (fun k => by simp only [impl_PlayDevice.j0]; rw [if_neg (by simpa using h)]) s2))⟩

theorem mark_text_l (d : Nat) : ∀ (n : Nat) (out : ByteArray), n < 2 ^ d → d ≤ 60 → out.size + d ≤ 1000 → ∃ r, Ev (fun k => laws_markText.l0 k (n : Int) out) r := by
  induction d with
  | zero =>
    intro n out hn _ ho
    have : n = 0 := by simpa using hn
    subst this
    exact ⟨_, Ev.step (fun k => by simp only [laws_markText.l0]; rw [if_neg (by omega), if_pos (by omega)]) (Ev.now _)⟩
  | succ d ih =>
    intro n out hn hd ho
    by_cases h0 : n = 0
    · subst h0
      exact ⟨_, Ev.step (fun k => by simp only [laws_markText.l0]; rw [if_neg (by omega), if_pos (by omega)]) (Ev.now _)⟩
    · have hp : (2 : Nat) ^ (d + 1) ≤ 2 ^ 60 := Nat.pow_le_pow_right (by omega) hd
      have hz : ∀ x : Int, (strOfNums [x]).size = 1 := fun x => by rw [strOfNums_size]; rfl
      have hw : wrap64 (Int.tdiv (n : Int) 10) = ((n / 10 : Nat) : Int) := by
        rw [Int.tdiv_eq_ediv_of_nonneg (by omega)]
        have : (n : Int) / 10 = ((n / 10 : Nat) : Int) := by omega
        rw [this]; unfold wrap64; omega
      obtain ⟨r, hr⟩ := ih (n / 10) (strOfNums [(wrap64 (48 + Int.tmod (n : Int) 10)) % 256] ++ out) (by rw [Nat.pow_succ] at hn; omega) (by omega) (by rw [ByteArray.size_append, hz]; omega)
      refine ⟨r, Ev.step (fun k => ?_) hr⟩
      simp only [laws_markText.l0, Option.bind_some]
      rw [if_pos (by omega), if_pos (by rw [hz]; omega), hw]
theorem mark_text (n : Nat) (hn : n < 2 ^ 48) : ∃ r, Ev (fun k => laws_markText.f k (n : Int)) r := by
  by_cases h0 : n = 0
  · subst h0; exact ⟨_, evp (by omega) (Ev.now _)⟩
  · obtain ⟨r, hr⟩ := mark_text_l 48 n (⟨#[]⟩ : ByteArray) hn (by omega) (by show 0 + 48 ≤ 1000; omega)
    exact ⟨r, evn (by omega) hr⟩
theorem mark_texts : ∃ T : Nat → ByteArray, ∀ n : Nat, n < 2 ^ 48 → Ev (fun k => laws_markText.f k (n : Int)) (T n) := by
  refine ⟨fun n => if h : n < 2 ^ 48 then Classical.choose (mark_text n h) else ByteArray.empty, fun n hn => ?_⟩
  simp only [dif_pos hn]
  exact Classical.choose_spec (mark_text n hn)

theorem mark_strs_l (T : Nat → ByteArray) (hT : ∀ n : Nat, n < 2 ^ 48 → Ev (fun k => laws_markText.f k (n : Int)) (T n)) (m : Nat) (hm : m < 2 ^ 44) (d : Nat) : ∀ (xs : List ByteArray) (i : Nat), i + d = xs.length → xs.length < 2 ^ 40 → (∀ j, j < i → xs.getD j ByteArray.empty = T (m + j)) →
    ∃ ys, Ev (fun k => laws_markStringS.l0 k xs ((m + i : Nat) : Int) (i : Int)) (((m + xs.length : Nat) : Int), ys) ∧ ys.length = xs.length ∧ ∀ j, j < xs.length → ys.getD j ByteArray.empty = T (m + j) := by
  induction d with
  | zero =>
    intro xs i hi _ hxs
    refine ⟨xs, Ev.step (fun k => by simp only [laws_markStringS.l0]; rw [if_neg (by omega)]) (by rw [show i = xs.length by omega]; exact Ev.now _), rfl, fun j hj => hxs j (by omega)⟩
  | succ d ih =>
    intro xs i hi hl hxs
    obtain ⟨ys, hr, hn, hy⟩ := ih (xs.set i (T (m + i))) (i + 1) (by rw [List.length_set]; omega) (by rw [List.length_set]; omega) (fun j hj => by
      rw [gset _ _ _ _ _ (by omega)]
      split
      · rename_i e; subst e; rfl
      · exact hxs j (by omega))
    rw [List.length_set] at hr hn hy
    have hw : wrap64 (((m + i : Nat) : Int) + 1) = ((m + (i + 1) : Nat) : Int) := by unfold wrap64; omega
    refine ⟨ys, Ev.step (fun k => by simp only [laws_markStringS.l0]; rw [if_pos (by omega), hw, inc i (by omega)]) (Ev.bind (hT (m + i) (by omega)) ?_), hn, hy⟩
    rw [Int.toNat_natCast]
    exact evp (by omega) hr
theorem held_strs_l (T : Nat → ByteArray) (hT : ∀ n : Nat, n < 2 ^ 48 → Ev (fun k => laws_markText.f k (n : Int)) (T n)) (m : Nat) (hm : m < 2 ^ 44) (d : Nat) : ∀ (ys : List ByteArray) (i : Nat), i + d = ys.length → ys.length < 2 ^ 40 → (∀ j, j < ys.length → ys.getD j ByteArray.empty = T (m + j)) →
    Ev (fun k => laws_heldStringS.l0 k ys ((m + i : Nat) : Int) (i : Int)) ((m + ys.length : Nat) : Int) := by
  induction d with
  | zero =>
    intro ys i hi _ _
    exact Ev.step (fun k => by simp only [laws_heldStringS.l0]; rw [if_neg (by omega)]) (by rw [show i = ys.length by omega]; exact Ev.now _)
  | succ d ih =>
    intro ys i hi hl hy
    have hw : wrap64 (((m + i : Nat) : Int) + 1) = ((m + (i + 1) : Nat) : Int) := by unfold wrap64; omega
    refine Ev.step (fun k => by simp only [laws_heldStringS.l0]; rw [if_pos (by omega), if_pos (by omega), rdOf_nat, hw, inc i (by omega)]) (Ev.bind (hT (m + i) (by omega)) ?_)
    exact evp (by rw [hy i (by omega)]) (ih ys (i + 1) (by omega) hl hy)
theorem marked_strm (T : Nat → ByteArray) (hT : ∀ n : Nat, n < 2 ^ 48 → Ev (fun k => laws_markText.f k (n : Int)) (T n)) (m : Nat) (hm : m < 2 ^ 44) (xs : List ByteArray) (hl : xs.length < 2 ^ 40) :
    ∃ ys, Ev (fun k => laws_markStringS.f k xs (m : Int)) (((m + xs.length : Nat) : Int), ys) ∧ ys.length = xs.length ∧ Ev (fun k => laws_heldStringS.f k ys (m : Int)) ((m + xs.length : Nat) : Int) := by
  obtain ⟨ys, h1, h2, h3⟩ := mark_strs_l T hT m hm xs.length xs 0 (by omega) hl (fun j hj => by omega)
  have h4 := held_strs_l T hT m hm ys.length ys 0 (by omega) (by omega) (fun j hj => h3 j (by omega))
  rw [Nat.add_zero] at h1 h4
  rw [h2] at h4
  exact ⟨ys, h1, h2, h4⟩

theorem mark_writes_l (T : Nat → ByteArray) (hT : ∀ n : Nat, n < 2 ^ 48 → Ev (fun k => laws_markText.f k (n : Int)) (T n)) (m : Nat) (hm : m < 2 ^ 44) (d : Nat) : ∀ (xs : List S42) (i : Nat), i + d = xs.length → xs.length < 2 ^ 40 → (∀ j, j < i → xs.getD j z42 = ⟨((m + 2 * j : Nat) : Int), T (m + 2 * j + 1)⟩) →
    ∃ ys, Ev (fun k => laws_markWriteS.l0 k xs ((m + 2 * i : Nat) : Int) (i : Int)) (((m + 2 * xs.length : Nat) : Int), ys) ∧ ys.length = xs.length ∧ ∀ j, j < xs.length → ys.getD j z42 = ⟨((m + 2 * j : Nat) : Int), T (m + 2 * j + 1)⟩ := by
  induction d with
  | zero =>
    intro xs i hi _ hxs
    refine ⟨xs, Ev.step (fun k => by simp only [laws_markWriteS.l0]; rw [if_neg (by omega)]) (by rw [show i = xs.length by omega]; exact Ev.now _), rfl, fun j hj => hxs j (by omega)⟩
  | succ d ih =>
    intro xs i hi hl hxs
    obtain ⟨ys, hr, hn, hy⟩ := ih (xs.set i ⟨((m + 2 * i : Nat) : Int), T (m + 2 * i + 1)⟩) (i + 1) (by rw [List.length_set]; omega) (by rw [List.length_set]; omega) (fun j hj => by
      rw [gset _ _ _ _ _ (by omega)]
      split
      · rename_i e; subst e; rfl
      · exact hxs j (by omega))
    rw [List.length_set] at hr hn hy
    have hw : wrap64 (((m + 2 * i : Nat) : Int) + 1) = ((m + 2 * i + 1 : Nat) : Int) := by unfold wrap64; omega
    have hw2 : wrap64 (((m + 2 * i + 1 : Nat) : Int) + 1) = ((m + 2 * (i + 1) : Nat) : Int) := by unfold wrap64; omega
    have st : ∀ k, laws_markWriteS.l0 (k + 1) xs ((m + 2 * i : Nat) : Int) (i : Int) = (laws_markText.f k ((m + 2 * i + 1 : Nat) : Int)).bind fun t => laws_markWriteS.l0 k (xs.set i ⟨((m + 2 * i : Nat) : Int), t⟩) ((m + 2 * (i + 1) : Nat) : Int) ((i + 1 : Nat) : Int) := fun k => by
      rw [laws_markWriteS.l0]
      rw [if_pos (by omega), if_pos (by omega), Option.bind_some, hw, hw2, inc i (by omega), Int.toNat_natCast]
      simp only [rd_write, List.set_set]
      rw [gset _ _ _ _ _ (by omega), if_pos rfl]
    exact ⟨ys, Ev.step st (Ev.bind (hT (m + 2 * i + 1) (by omega)) hr), hn, hy⟩
theorem held_writes_l (T : Nat → ByteArray) (hT : ∀ n : Nat, n < 2 ^ 48 → Ev (fun k => laws_markText.f k (n : Int)) (T n)) (m : Nat) (hm : m < 2 ^ 44) (d : Nat) : ∀ (ys : List S42) (i : Nat), i + d = ys.length → ys.length < 2 ^ 40 → (∀ j, j < ys.length → ys.getD j z42 = ⟨((m + 2 * j : Nat) : Int), T (m + 2 * j + 1)⟩) →
    Ev (fun k => laws_heldWriteS.l0 k ys ((m + 2 * i : Nat) : Int) (i : Int)) ((m + 2 * ys.length : Nat) : Int) := by
  induction d with
  | zero =>
    intro ys i hi _ _
    exact Ev.step (fun k => by simp only [laws_heldWriteS.l0]; rw [if_neg (by omega)]) (by rw [show i = ys.length by omega]; exact Ev.now _)
  | succ d ih =>
    intro ys i hi hl hy
    have hw : wrap64 (((m + 2 * i : Nat) : Int) + 1) = ((m + 2 * i + 1 : Nat) : Int) := by unfold wrap64; omega
    have hw2 : wrap64 (((m + 2 * i + 1 : Nat) : Int) + 1) = ((m + 2 * (i + 1) : Nat) : Int) := by unfold wrap64; omega
    refine Ev.step (fun k => by
      rw [laws_heldWriteS.l0]
      rw [if_pos (by omega), if_pos (by omega), rd_write, hy i (by omega)]
      rw [if_pos rfl, hw, hw2, inc i (by omega)]) (Ev.bind (hT (m + 2 * i + 1) (by omega)) ?_)
    exact evp rfl (ih ys (i + 1) (by omega) hl hy)
theorem marked_writes (T : Nat → ByteArray) (hT : ∀ n : Nat, n < 2 ^ 48 → Ev (fun k => laws_markText.f k (n : Int)) (T n)) (m : Nat) (hm : m < 2 ^ 44) (xs : List S42) (hl : xs.length < 2 ^ 40) :
    ∃ ys, Ev (fun k => laws_markWriteS.f k xs (m : Int)) (((m + 2 * xs.length : Nat) : Int), ys) ∧ ys.length = xs.length ∧ Ev (fun k => laws_heldWriteS.f k ys (m : Int)) ((m + 2 * xs.length : Nat) : Int) := by
  obtain ⟨ys, h1, h2, h3⟩ := mark_writes_l T hT m hm xs.length xs 0 (by omega) hl (fun j hj => by omega)
  have h4 := held_writes_l T hT m hm ys.length ys 0 (by omega) (by omega) (fun j hj => h3 j (by omega))
  rw [Nat.mul_zero, Nat.add_zero] at h1 h4
  rw [h2] at h4
  exact ⟨ys, h1, h2, h4⟩
theorem marked_device (xs : List ByteArray) (ws : List S42) (hx : xs.length < 2 ^ 40) (hw : ws.length < 2 ^ 40) :
    ∃ ys vs, Ev (fun k => laws_markDevice.f k xs ws 1) (((1 + xs.length + 2 * ws.length : Nat) : Int), ys, vs) ∧ Ev (fun k => laws_heldDevice.f k ys vs 1) ((1 + xs.length + 2 * ws.length : Nat) : Int) := by
  obtain ⟨T, hT⟩ := mark_texts
  obtain ⟨ys, a1, a2, a3⟩ := marked_strm T hT 1 (by omega) xs hx
  obtain ⟨vs, b1, b2, b3⟩ := marked_writes T hT (1 + xs.length) (by omega) ws hw
  exact ⟨ys, vs, Ev.bind a1 (Ev.bind b1 (Ev.now _)), Ev.bind a3 (evn (by show ¬ ((1 + xs.length : Nat) : Int) < 0; omega) (Ev.bind b3 (evn (by show ¬ ((1 + xs.length + 2 * ws.length : Nat) : Int) < 0; omega) (Ev.now _))))⟩

theorem FnExactPlayDevice : laws_FnExactPlayDevice.PureG := by
  intro n ws hn hw
  refine Ev.rounds ?_
  obtain ⟨r, h1, h2⟩ := sz_writes ws hw.1 hw.2 1048576 (by omega) (by omega)
  unfold laws_FnExactPlayDevice.f
  refine Ev.bind h1 ?_
  by_cases hr : r < 0
  · exact evp hr (Ev.now _)
  · have hy : ws.length < 2 ^ 40 := by omega
    have T := to_writes ws hy
    have Q0 := eq_writes (ws.map convWrite) (conv_len ws hy)
    obtain ⟨rx, rw_, ok, hrx, hrw, e1, e2⟩ := both_PlayDevice n (ws.map convWrite) (conv_len ws hy)
    have Q := eq_device rx rw_ hrx hrw
    obtain ⟨TT, hT⟩ := mark_texts
    obtain ⟨vs, m1, _, _⟩ := marked_writes TT hT 1 (by omega) (ws.map convWrite) (conv_len ws hy)
    obtain ⟨ys2, vs2, m3, m4⟩ := marked_device rx rw_ hrx hrw
    refine evn hr (Ev.bind T (Ev.bind e1 (Ev.bind T (Ev.bind e2 (Ev.bind Q (evp rfl ?_))))))
    rw [bne_self_eq_false]
    refine Ev.step (fun k => by simp only [laws_FnExactPlayDevice.j0]; rw [if_neg (by decide)]) (Ev.bind T (Ev.bind Q0 (evp rfl (Ev.bind m1 (evn (nn _) (Ev.bind Q (evp rfl ?_)))))))
    rw [bne_self_eq_false]
    refine Ev.step (fun k => by simp only [laws_FnExactPlayDevice.j1]; rw [if_neg (by decide)]) (Ev.bind m3 (Ev.bind m4 (evn (nn _) (evp rfl (Ev.bind T (Ev.bind e2 (Ev.bind Q (evp rfl ?_))))))))
    rw [bne_self_eq_false]
    exact Ev.step (fun k => by simp only [laws_FnExactPlayDevice.j2]; rw [if_neg (by decide)]) (Ev.bind m4 (evn (nn _) (evp rfl (Ev.now _))))

end Go.Proofs.Ytlhgkbleciokmaa.Pure
