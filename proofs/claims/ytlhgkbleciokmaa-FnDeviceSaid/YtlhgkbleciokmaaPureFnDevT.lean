/- The laws of devices hold of the drawn devices; no condition. -/
import Derived.Test.YtlhgkbleciokmaaQFnDevTx9
import Derived.OpenShut
set_option linter.unusedVariables false
set_option linter.unusedSimpArgs false
namespace Go.Proofs.Ytlhgkbleciokmaa.Pure
open Go.RowKit Go.Proofs.Ytlhgkbleciokmaa.PFnDevice Go.Proofs.YtlhgkbleciokmaaW.PrintWords Go.Proofs.YtlhgkbleciokmaaW.PrintLast Go.Proofs.YtlhgkbleciokmaaW.PrintMore 

theorem wr64 (n : Nat) (h : n < 2 ^ 62) : wrap64 (n : Int) = (n : Int) := by unfold wrap64; omega
theorem wri (n : Int) (h : 0 ≤ n) (h1 : n < 2 ^ 62) : wrap64 n = n := by unfold wrap64; omega
theorem byte_of {x : Int} (h : (Lit.int .u8 x).wf = true) : ∃ n : Nat, n < 256 ∧ x = (n : Int) := by
  have := bounds_u8 h
  exact ⟨x.toNat, by omega, by omega⟩
theorem shr_nat (b j q : Nat) (hj : j ≤ 8) (hq : q = b / 2 ^ j) : shr .u8 (b : Int) (j : Int) = (q : Int) := by
  unfold shr
  rw [Int.toNat_natCast, Nat.min_eq_left (show j ≤ IntKind.bits .u8 from hj), hq]
  simp
theorem dbl (x : Nat) (hx : x < 256) : wrap64 ((x : Int) * 2) = ((2 * x : Nat) : Int) := by unfold wrap64; omega
theorem inc (j : Nat) (hj : j < 2 ^ 62) : wrap64 ((j : Int) + 1) = ((j + 1 : Nat) : Int) := by unfold wrap64; omega
theorem nn (n : Nat) : ¬ ((n : Int) < 0) := by omega

theorem within_tells (a b c : Int) : impl_within.f a b c = some (decide (a ≥ b ∧ a ≤ c)) := by
  unfold impl_within.f
  split
  · rename_i h; simp [h]
  · rename_i h; simp [h]
theorem l1In_tells (a b c : Int) : spec_l1In.f a b c = some (decide (a ≥ b ∧ a ≤ c)) := by
  unfold spec_l1In.f
  split
  · rename_i h; simp [h]
  · rename_i h; simp [h]

theorem ev_of {α : Type} {g : Nat → Option α} {r : α} (K : Nat) (h : ∀ k, K < k → g k = some r) : Ev g r := ⟨K + 1, fun k hk => h k (by omega)⟩
theorem evp {α : Type} {c : Prop} [Decidable c] {f g : Nat → Option α} {r : α} (h : c) (k : Ev f r) : Ev (fun n => if c then f n else g n) r := Ev.congr (fun _ => if_pos h) k
theorem evn {α : Type} {c : Prop} [Decidable c] {f g : Nat → Option α} {r : α} (h : ¬ c) (k : Ev g r) : Ev (fun n => if c then f n else g n) r := Ev.congr (fun _ => if_neg h) k
theorem ev_some {α β : Type} {a : α} {f : Nat → α → Option β} {r : β} (h : Ev (fun n => f n a) r) : Ev (fun n => (some a).bind (f n)) r := h
theorem ev_to_some {α β : Type} {o : Option α} {a : α} {f : Nat → α → Option β} {r : β} (ho : o = some a) (h : Ev (fun n => f n a) r) : Ev (fun n => o.bind (f n)) r := by subst ho; exact h
theorem maxLen_lt : maxLen < 2 ^ 63 := by decide

theorem gset {α : Type} (z : α) (xs : List α) (i j : Nat) (v : α) (hi : i < xs.length) : (xs.set i v).getD j z = if j = i then v else xs.getD j z := by
  simp only [List.getD_eq_getElem?_getD, List.getElem?_set]
  by_cases h : i = j
  · subst h; simp [hi]
  · rw [if_neg h, if_neg (fun e => h e.symm)]
theorem gext {α : Type} (z : α) {l m : List α} (hl : l.length = m.length) (h : ∀ j, j < l.length → l.getD j z = m.getD j z) : l = m := by
  apply List.ext_getElem hl
  intro j h1 h2
  have := h j h1
  simpa [List.getD_eq_getElem?_getD, h1, h2] using this
theorem rdOf_nat {α : Type} (z : α) (xs : List α) (i : Nat) : rdOf z xs (i : Int) = xs.getD i z := by unfold rdOf; rw [Int.toNat_natCast]
theorem gmem {α : Type} (z : α) {xs : List α} {i : Nat} (h : i < xs.length) : xs.getD i z ∈ xs := by
  rw [List.getD_eq_getElem?_getD]; simp [h]
/-- what a count of sizes leaves -/
def Left (B r : Int) : Prop := r < 0 ∨ 0 ≤ r ∧ r ≤ B

theorem rd_write (xs : List S42) (i : Nat) : rd_T42 xs (i : Int) = xs.getD i z42 := by unfold rd_T42; rw [Int.toNat_natCast]
theorem spec_good1 (xs : List ByteArray) (ws : List S42) (hl : xs.length < 2 ^ 40) (hw : ws.length < 2 ^ 40) (d : Nat) : ∀ (i : Nat), i + d = ws.length →
    Ev (fun k => spec_GoodDevice.l1 k ws (ws.length : Int) (i : Int) xs ws) (!((ws.drop i).any (badWrite xs.length)) && (decide (1 ≤ xs.length ∧ xs.length ≤ 32) && decide (ws.length ≤ 60))) := by
  induction d with
  | zero =>
    intro i hi
    rw [List.drop_eq_nil_of_le (by omega)]
    refine Ev.step (fun k => by simp only [spec_GoodDevice.l1]; rw [if_neg (by omega), l1In_tells]) ?_
    refine ev_some ?_
    by_cases h : 1 ≤ xs.length ∧ xs.length ≤ 32
    · refine evp (decide_eq_true (by omega)) ?_
      rw [decide_eq_true h]
      simp only [List.any_nil, Bool.not_false, Bool.true_and]
      exact Ev.congr (fun _ => by congr 1; rw [decide_eq_decide]; omega) (Ev.now _)
    · refine evn (by rw [decide_eq_true_eq]; omega) ?_
      rw [decide_eq_false h]
      exact Ev.now _
  | succ d ih =>
    intro i hi
    have hlt : i < ws.length := by omega
    rw [List.drop_eq_getElem_cons hlt, List.any_cons]
    have hg : ws.getD i z42 = ws[i] := by rw [List.getD_eq_getElem?_getD, List.getElem?_eq_getElem hlt]; rfl
    have hw1 : wrap64 ((xs.length : Int) - 1) = (xs.length : Int) - 1 := by unfold wrap64; omega
    have hb : spec_l1Write.f (ws[i]).f0 (ws[i]).f1 (xs.length : Int) = some (!(badWrite xs.length ws[i])) := by
      unfold spec_l1Write.f badWrite
      rw [hw1, l1In_tells]
      simp only [Option.bind_some]
      generalize decide ((ws[i]).f0 ≥ 0 ∧ (ws[i]).f0 ≤ (xs.length : Int) - 1) = b
      cases b
      · rfl
      · simp [bne]
    have hst : ∀ k, spec_GoodDevice.l1 (k + 1) ws (ws.length : Int) (i : Int) xs ws = if (!(badWrite xs.length ws[i])) = true then spec_GoodDevice.l1 k ws (ws.length : Int) ((i + 1 : Nat) : Int) xs ws else some false := fun k => by
      simp only [spec_GoodDevice.l1]
      rw [if_pos (by omega), if_pos (by omega), if_pos (by omega), rd_write, hg, hb, Option.bind_some, inc i (by omega)]
    refine Ev.step hst ?_
    cases hbw : badWrite xs.length ws[i]
    · exact evp rfl (by simpa using ih (i + 1) (by omega))
    · exact evn (by decide) (Ev.now _)
theorem spec_good0 (xs : List ByteArray) (ws : List S42) (hl : xs.length < 2 ^ 40) (hw : ws.length < 2 ^ 40) (d : Nat) : ∀ (i : Nat), i + d = xs.length →
    Ev (fun k => spec_GoodDevice.l0 k xs (xs.length : Int) (i : Int) xs ws) (!((xs.drop i).any (fun s => (s.size : Int) != 8)) && (!(ws.any (badWrite xs.length)) && (decide (1 ≤ xs.length ∧ xs.length ≤ 32) && decide (ws.length ≤ 60)))) := by
  induction d with
  | zero =>
    intro i hi
    rw [List.drop_eq_nil_of_le (by omega)]
    exact Ev.step (fun k => by simp only [spec_GoodDevice.l0]; rw [if_neg (by omega)]) (by simpa using spec_good1 xs ws hl hw ws.length 0 (by omega))
  | succ d ih =>
    intro i hi
    have hlt : i < xs.length := by omega
    rw [List.drop_eq_getElem_cons hlt, List.any_cons]
    have hg : xs.getD i ByteArray.empty = xs[i] := by rw [List.getD_eq_getElem?_getD, List.getElem?_eq_getElem hlt]; rfl
    have hst : ∀ k, spec_GoodDevice.l0 (k + 1) xs (xs.length : Int) (i : Int) xs ws = if ((xs[i]).size : Int) = 8 then spec_GoodDevice.l0 k xs (xs.length : Int) ((i + 1 : Nat) : Int) xs ws else some false := fun k => by
      simp only [spec_GoodDevice.l0]
      rw [if_pos (by omega), if_pos (by omega), if_pos (by omega), rdOf_nat, hg, inc i (by omega)]
    refine Ev.step hst ?_
    by_cases hb : ((xs[i]).size : Int) = 8
    · refine evp hb ?_
      have := ih (i + 1) (by omega)
      rw [show (((xs[i]).size : Int) != 8) = false by rw [hb]; rfl, Bool.false_or]
      exact this
    · refine evn hb ?_
      rw [show (((xs[i]).size : Int) != 8) = true by simpa using hb]
      exact Ev.now _
theorem spec_goodD (xs : List ByteArray) (ws : List S42) (hl : xs.length < 2 ^ 40) (hw : ws.length < 2 ^ 40) : Ev (fun k => spec_GoodDevice.f k xs ws) (goodD xs ws) := by
  have h := spec_good0 xs ws hl hw xs.length 0 (by omega)
  have e : goodD xs ws = (!((xs.drop 0).any (fun s => (s.size : Int) != 8)) && (!(ws.any (badWrite xs.length)) && (decide (1 ≤ xs.length ∧ xs.length ≤ 32) && decide (ws.length ≤ 60)))) := by
    unfold goodD
    rw [List.drop_zero]
    generalize decide (1 ≤ xs.length ∧ xs.length ≤ 32) = a
    generalize decide (ws.length ≤ 60) = b
    generalize (xs.any fun s => (s.size : Int) != 8) = c
    generalize ws.any (badWrite xs.length) = d
    cases a <;> cases b <;> cases c <;> cases d <;> rfl
  rw [e]
  exact h
theorem impl_goodD (xs : List ByteArray) (ws : List S42) : impl_GoodDevice.f xs ws = some (goodD xs ws) := rfl

theorem wlen (xs : List ByteArray) (hx : xs.length < 2 ^ 40) : wrap64 ((xs.length : Int) - 1) = (xs.length : Int) - 1 := by unfold wrap64; omega
theorem impl_isSector' (xs : List ByteArray) (ws : List S42) (a : Int) (hx : xs.length < 2 ^ 40) : impl_isSector.f xs ws a = some (goodD xs ws && decide (a ≥ 0 ∧ a ≤ (xs.length : Int) - 1)) := by
  unfold impl_isSector.f
  rw [impl_goodD, wlen xs hx, within_tells]
  cases goodD xs ws <;> simp

/-- a write on one of n sectors -/
def okW (n : Nat) (s : S42) : Prop := 0 ≤ s.f0 ∧ s.f0 < (n : Int)
theorem good_valid {xs : List ByteArray} {ws : List S42} (h : goodD xs ws = true) : (1 ≤ xs.length ∧ xs.length ≤ 32) ∧ ws.length ≤ 60 ∧ (∀ x ∈ xs, x.size = 8) ∧ ∀ s ∈ ws, okW xs.length s ∧ s.f1.size = 8 := by
  unfold goodD at h
  simp only [Bool.and_eq_true, decide_eq_true_eq, Bool.not_eq_true', List.any_eq_false] at h
  obtain ⟨h1, h2, h3, h4⟩ := h
  refine ⟨h1, h2, fun x hx => ?_, fun s hs => ?_⟩
  · have := h3 x hx
    simp only [bne_iff_ne, ne_eq, Decidable.not_not] at this
    omega
  · have := h4 s hs
    unfold badWrite at this
    simp only [Bool.or_eq_true, Bool.not_eq_true', decide_eq_false_iff_not, bne_iff_ne, ne_eq, not_or, Decidable.not_not] at this
    unfold okW
    omega
/-- the sectors behind those writes that are kept -/
def doneP (p : Int → Bool) : List S42 → Int → List ByteArray → List ByteArray
  | [], _, o => o
  | s :: l, i, o => doneP p l (i + 1) (if p i = true then o.set s.f0.toNat s.f1 else o)
theorem doneP_len (p : Int → Bool) : ∀ (ws : List S42) (i : Int) (o : List ByteArray), (doneP p ws i o).length = o.length
  | [], _, _ => rfl
  | s :: l, i, o => by
    rw [doneP, doneP_len p l]
    split
    · rw [List.length_set]
    · rfl
theorem doneP_any (ws : List S42) : ∀ (i j : Int) (o : List ByteArray), doneP (fun _ => true) ws i o = doneP (fun _ => true) ws j o := by
  induction ws with
  | nil => intro i j o; rfl
  | cons s l ih => intro i j o; rw [doneP, doneP]; exact ih _ _ _
theorem perf_done (p : Int → Bool) : ∀ (ws : List S42) (i : Int) (o : List ByteArray), (∀ s ∈ ws, okW o.length s) → perfL p ws i o = some (doneP p ws i o)
  | [], _, _, _ => rfl
  | s :: l, i, o, h => by
    have h0 := h s List.mem_cons_self
    unfold okW at h0
    rw [perfL, doneP]
    by_cases hp : p i = true
    · rw [if_pos hp, if_pos hp, if_pos h0.1, if_pos h0.2]
      exact perf_done p l _ _ (fun t ht => by rw [List.length_set]; exact h t (List.mem_cons_of_mem _ ht))
    · rw [if_neg hp, if_neg hp]
      exact perf_done p l _ _ (fun t ht => h t (List.mem_cons_of_mem _ ht))
theorem l1done_l (ws : List S42) (n : Nat) (hw : ws.length < 2 ^ 40) (h : ∀ s ∈ ws, okW n s) (d : Nat) : ∀ (i : Nat) (o : List ByteArray), i + d = ws.length → o.length = n →
    Ev (fun k => spec_l1Done.l0 k o ws (ws.length : Int) (i : Int)) (doneP (fun _ => true) (ws.drop i) 0 o) := by
  induction d with
  | zero =>
    intro i o hi ho
    rw [List.drop_eq_nil_of_le (by omega), doneP]
    exact Ev.step (fun k => by simp only [spec_l1Done.l0]; rw [if_neg (by omega)]) (Ev.now _)
  | succ d ih =>
    intro i o hi ho
    have hlt : i < ws.length := by omega
    have hg : ws.getD i z42 = ws[i] := by rw [List.getD_eq_getElem?_getD, List.getElem?_eq_getElem hlt]; rfl
    have h0 := h ws[i] (List.getElem_mem hlt)
    unfold okW at h0
    rw [List.drop_eq_getElem_cons hlt, doneP, doneP_any _ _ 0, if_pos rfl]
    refine Ev.step (fun k => by
      simp only [spec_l1Done.l0]
      rw [if_pos (by omega), if_pos (by omega), if_pos (by omega), rd_write, hg, if_pos h0.1, if_pos (by omega), inc i (by omega)]) ?_
    exact ih (i + 1) _ (by omega) (by rw [List.length_set]; exact ho)
theorem l1done (xs : List ByteArray) (ws : List S42) (hx : xs.length < 2 ^ 40) (hw : ws.length < 2 ^ 40) (h : ∀ s ∈ ws, okW xs.length s) : Ev (fun k => spec_l1Done.f k xs ws) (doneP (fun _ => true) ws 0 xs) := by
  unfold spec_l1Done.f
  refine ev_some (evp (by simp only [List.length_nil]; omega) ?_)
  have := l1done_l ws xs.length hw h ws.length 0 xs (by omega) rfl
  rwa [List.drop_zero] at this
theorem clone_str (xs : List ByteArray) (hx : xs.length < 2 ^ 40) : slices_Clone_string_string.f xs = some xs := by
  unfold slices_Clone_string_string.f
  rw [if_pos (by omega)]

theorem good_snoc {xs : List ByteArray} {ws : List S42} (h : goodD xs ws = true) (w : S42) : goodD xs (ws ++ [w]) = (decide (ws.length + 1 ≤ 60) && !(badWrite xs.length w)) := by
  unfold goodD at *
  simp only [Bool.and_eq_true] at h
  obtain ⟨h1, h2, h3, h4⟩ := h
  rw [h1, h3, List.any_append]
  simp only [Bool.not_eq_true'] at h4
  rw [h4]
  simp
theorem clone_w (ws : List S42) (hw : ws.length < 2 ^ 40) : impl_Write.f ws = some ws := by unfold impl_Write.f; rw [if_pos (by omega)]
theorem l1write (xs : List ByteArray) (n : Int) (s : ByteArray) (hx : xs.length < 2 ^ 40) : spec_l1Write.f n s (xs.length : Int) = some (!(badWrite xs.length ⟨n, s⟩)) := by
  have hw1 : wrap64 ((xs.length : Int) - 1) = (xs.length : Int) - 1 := by unfold wrap64; omega
  unfold spec_l1Write.f badWrite
  rw [hw1, l1In_tells]
  simp only [Option.bind_some]
  generalize decide (n ≥ 0 ∧ n ≤ (xs.length : Int) - 1) = b
  cases b
  · rfl
  · simp [bne]
theorem both_WriteSector (xs : List ByteArray) (ws : List S42) (n : Int) (s : ByteArray) (hx : xs.length < 2 ^ 40) (hw : ws.length < 2 ^ 40) :
    ∃ (rx : List ByteArray) (rw : List S42) (ok : Bool), rx.length < 2 ^ 40 ∧ rw.length < 2 ^ 40 ∧ Ev (fun k => spec_WriteSector.f k xs ws n s) (rx, rw, ok) ∧ impl_WriteSector.f xs ws n s = some (rx, rw, ok) := by
  have hs := spec_goodD xs ws hx hw
  have hi : impl_WriteSector.f xs ws n s = if goodD xs ws = true then (if goodD xs (ws ++ [⟨n, s⟩]) = true then some (xs, ws ++ [⟨n, s⟩], true) else some ([], [], false)) else some ([], [], false) := by
    unfold impl_WriteSector.f
    rw [clone_str xs hx, clone_w ws hw]
    simp only [Option.bind_some, List.length_cons, List.length_nil]
    rw [if_pos (by omega)]
    rfl
  rw [hi]
  unfold spec_WriteSector.f
  cases hg : goodD xs ws with
  | false =>
    rw [hg] at hs
    exact ⟨[], [], false, by simp, by simp, Ev.bind hs (evn (by decide) (Ev.now _)), rfl⟩
  | true =>
    rw [hg] at hs
    have h60 := (good_valid hg).2.1
    have hsn := good_snoc hg ⟨n, s⟩
    rw [if_pos rfl, hsn]
    cases hb : badWrite xs.length ⟨n, s⟩ with
    | true =>
      refine ⟨[], [], false, by simp, by simp, Ev.bind hs (evp rfl (ev_to_some (l1write xs n s hx) ?_)), by rw [Bool.not_true, Bool.and_false]; rfl⟩
      rw [hb]
      exact evn (by decide) (Ev.now _)
    | false =>
      by_cases h : ws.length + 1 ≤ 60
      · refine ⟨xs, ws ++ [⟨n, s⟩], true, hx, by rw [List.length_append]; simp; omega, Ev.bind hs (evp rfl (ev_to_some (l1write xs n s hx) ?_)), by rw [decide_eq_true h]; rfl⟩
        rw [hb]
        refine evp rfl (evn (by omega) (ev_to_some (a := (xs, ws)) ?_ (evp (show ws.length < 5864062014805 by omega) (Ev.now _))))
        unfold spec_l1Own.f
        simp only [Option.bind_some, List.nil_append, List.length_nil]
        rw [if_pos (by omega), if_pos (by omega)]
      · refine ⟨[], [], false, by simp, by simp, Ev.bind hs (evp rfl (ev_to_some (l1write xs n s hx) ?_)), by rw [decide_eq_false h]; rfl⟩
        rw [hb]
        exact evp rfl (evp (by omega) (Ev.now _))

/-- the writes that are kept -/
def keptL (p : Int → Bool) : List S42 → Int → List S42
  | [], _ => []
  | s :: l, i => if p i = true then s :: keptL p l (i + 1) else keptL p l (i + 1)
theorem keptL_mem (p : Int → Bool) : ∀ (ws : List S42) (i : Int) (s : S42), s ∈ keptL p ws i → s ∈ ws
  | [], _, _, h => by cases h
  | t :: l, i, s, h => by
    rw [keptL] at h
    split at h
    · rcases List.mem_cons.mp h with rfl | h
      · exact List.mem_cons_self
      · exact List.mem_cons_of_mem _ (keptL_mem p l _ s h)
    · exact List.mem_cons_of_mem _ (keptL_mem p l _ s h)
theorem keptL_len (p : Int → Bool) : ∀ (ws : List S42) (i : Int), (keptL p ws i).length ≤ ws.length
  | [], _ => Nat.le_refl _
  | t :: l, i => by
    have := keptL_len p l (i + 1)
    rw [keptL]
    split
    · simp only [List.length_cons]; omega
    · simp only [List.length_cons]; omega
theorem done_kept (p : Int → Bool) : ∀ (ws : List S42) (i j : Int) (o : List ByteArray), doneP (fun _ => true) (keptL p ws i) j o = doneP p ws i o
  | [], _, _, _ => rfl
  | s :: l, i, j, o => by
    rw [keptL, doneP]
    split
    · rw [doneP, if_pos rfl]; exact done_kept p l _ _ _
    · exact done_kept p l _ _ _
theorem spec_kept_l (ws : List S42) (ks : List Bool) (hw : ws.length < 2 ^ 40) (hk : ks.length = ws.length) (d : Nat) : ∀ (i : Nat) (out : List S42), i + d = ws.length → out.length ≤ i →
    Ev (fun k => spec_l1Kept.l0 k ks out ws (ws.length : Int) (i : Int)) (out ++ keptL (rdOf false ks) (ws.drop i) (i : Int)) := by
  induction d with
  | zero =>
    intro i out hi ho
    rw [List.drop_eq_nil_of_le (by omega), keptL, List.append_nil]
    exact Ev.step (fun k => by simp only [spec_l1Kept.l0]; rw [if_neg (by omega)]) (Ev.now _)
  | succ d ih =>
    intro i out hi ho
    have hlt : i < ws.length := by omega
    have hg : ws.getD i z42 = ws[i] := by rw [List.getD_eq_getElem?_getD, List.getElem?_eq_getElem hlt]; rfl
    rw [List.drop_eq_getElem_cons hlt, keptL]
    by_cases hp : rdOf false ks (i : Int) = true
    · refine Ev.step (fun k => by
        simp only [spec_l1Kept.l0]
        rw [if_pos (by omega), if_pos (by omega), if_pos (by omega), if_pos (by omega), if_pos hp, if_pos (by omega), rd_write, hg, inc i (by omega)]) ?_
      have := ih (i + 1) (out ++ [ws[i]]) (by omega) (by rw [List.length_append]; simp only [List.length_cons, List.length_nil]; omega)
      rw [List.append_assoc] at this
      rw [if_pos hp]
      exact this
    · refine Ev.step (fun k => by
        simp only [spec_l1Kept.l0]
        rw [if_pos (by omega), if_pos (by omega), if_pos (by omega), if_pos (by omega), if_neg hp, inc i (by omega)]) ?_
      rw [if_neg hp]
      exact ih (i + 1) out (by omega) (by omega)
theorem spec_kept (ws : List S42) (ks : List Bool) (hw : ws.length < 2 ^ 40) (hk : ks.length = ws.length) : Ev (fun k => spec_l1Kept.f k ws ks) (keptL (rdOf false ks) ws 0) := by
  have := spec_kept_l ws ks hw hk ws.length 0 [] (by omega) (by simp)
  rwa [List.drop_zero, List.nil_append] at this

theorem both_CrashDevice (xs : List ByteArray) (ws : List S42) (ks : List Bool) (hx : xs.length < 2 ^ 40) (hw : ws.length < 2 ^ 40) (hk : ks.length < 2 ^ 40) :
    ∃ (rx : List ByteArray) (rw : List S42) (ok : Bool), rx.length < 2 ^ 40 ∧ rw.length < 2 ^ 40 ∧ Ev (fun k => spec_CrashDevice.f k xs ws ks) (rx, rw, ok) ∧ impl_CrashDevice.f xs ws ks = some (rx, rw, ok) := by
  have hs := spec_goodD xs ws hx hw
  unfold spec_CrashDevice.f impl_CrashDevice.f
  cases hg : goodD xs ws with
  | false =>
    rw [hg] at hs
    exact ⟨[], [], false, by simp, by simp, Ev.bind hs (evn (by decide) (Ev.step (fun k => by simp only [spec_CrashDevice.j0]; rw [if_pos trivial]) (Ev.now _))), rfl⟩
  | true =>
    rw [hg] at hs
    obtain ⟨g1, g2, g3, g4⟩ := good_valid hg
    have hv : ∀ s ∈ ws, okW xs.length s := fun s hs => (g4 s hs).1
    rw [if_pos rfl]
    by_cases hn : ks.length = ws.length
    · have e : ((ks.length : Int) != (ws.length : Int)) = false := by rw [hn]; exact bne_self_eq_false _
      have hkm : ∀ s ∈ keptL (rdOf false ks) ws 0, okW xs.length s := fun s hs => hv s (keptL_mem _ _ _ _ hs)
      have hd := l1done xs _ hx (Nat.lt_of_le_of_lt (keptL_len (rdOf false ks) ws 0) hw) hkm
      rw [done_kept] at hd
      refine ⟨doneP (rdOf false ks) ws 0 xs, [], true, by rw [doneP_len]; exact hx, by simp, ?_, ?_⟩
      · refine Ev.bind hs (evp rfl ?_)
        rw [e]
        refine Ev.step (fun k => by simp only [spec_CrashDevice.j0]; rw [if_neg (by decide)]) (Ev.bind (spec_kept ws ks hw hn) ?_)
        refine Ev.bind hd ?_
        exact Ev.now _
      · rw [if_pos hn, clone_str xs hx]; simp only [Option.bind_some]; rw [perf_done _ ws 0 xs hv]; rfl
    · have e : ((ks.length : Int) != (ws.length : Int)) = true := by simp only [bne_iff_ne, ne_eq]; omega
      refine ⟨[], [], false, by simp, by simp, ?_, by rw [if_neg hn]⟩
      refine Ev.bind hs (evp rfl ?_)
      rw [e]
      exact Ev.step (fun k => by simp only [spec_CrashDevice.j0]; rw [if_pos trivial]) (Ev.now _)

/-- a number put into a rising list, once -/
def putU (n : Int) : List Int → List Int
  | [] => [n]
  | y :: l => if y < n then y :: putU n l else if y = n then y :: l else n :: y :: l
theorem putU_mem (n : Int) : ∀ (l : List Int) (x : Int), x ∈ putU n l ↔ x = n ∨ x ∈ l
  | [], x => by rw [putU]; simp
  | y :: l, x => by
    rw [putU]
    split
    · rw [List.mem_cons, putU_mem n l x, List.mem_cons]
      constructor
      · rintro (h | h | h)
        · exact Or.inr (Or.inl h)
        · exact Or.inl h
        · exact Or.inr (Or.inr h)
      · rintro (h | h | h)
        · exact Or.inr (Or.inl h)
        · exact Or.inl h
        · exact Or.inr (Or.inr h)
    · split
      · rename_i h; subst h; rw [List.mem_cons]; constructor
        · exact Or.inr
        · rintro (h | h)
          · exact Or.inl h
          · exact h
      · rw [List.mem_cons]
theorem putU_rise (n : Int) : ∀ {l : List Int}, List.Pairwise (· < ·) l → List.Pairwise (· < ·) (putU n l)
  | [], _ => by rw [putU]; exact List.Pairwise.cons (fun _ h => by cases h) List.Pairwise.nil
  | y :: l, h => by
    rw [putU]
    split
    · rename_i hy
      refine List.Pairwise.cons (fun z hz => ?_) (putU_rise n (List.Pairwise.of_cons h))
      rcases (putU_mem n l z).mp hz with rfl | hz
      · exact hy
      · exact List.rel_of_pairwise_cons h hz
    · split
      · exact h
      · rename_i h1 h2
        refine List.Pairwise.cons (fun z hz => ?_) h
        rcases List.mem_cons.mp hz with rfl | hz
        · omega
        · have := List.rel_of_pairwise_cons h hz; omega
theorem putU_len (n : Int) : ∀ l : List Int, (putU n l).length ≤ l.length + 1
  | [] => by simp [putU]
  | y :: l => by
    have := putU_len n l
    rw [putU]
    split
    · simp only [List.length_cons]; omega
    · split <;> simp only [List.length_cons] <;> omega
theorem rise_ext : ∀ {l m : List Int}, List.Pairwise (· < ·) l → List.Pairwise (· < ·) m → (∀ x, x ∈ l ↔ x ∈ m) → l = m
  | [], [], _, _, _ => rfl
  | [], y :: m, _, _, h => absurd ((h y).mpr List.mem_cons_self) (by simp)
  | x :: l, [], _, _, h => absurd ((h x).mp List.mem_cons_self) (by simp)
  | x :: l, y :: m, hl, hm, h => by
    have e : x = y := by
      rcases List.mem_cons.mp ((h x).mp List.mem_cons_self) with e | hx
      · exact e
      · rcases List.mem_cons.mp ((h y).mpr List.mem_cons_self) with e | hy
        · exact e.symm
        · have := List.rel_of_pairwise_cons hm hx
          have := List.rel_of_pairwise_cons hl hy
          omega
    subst e
    congr 1
    refine rise_ext (List.Pairwise.of_cons hl) (List.Pairwise.of_cons hm) (fun z => ?_)
    constructor
    · intro hz
      have := List.rel_of_pairwise_cons hl hz
      rcases List.mem_cons.mp ((h z).mp (List.mem_cons_of_mem _ hz)) with e | hz'
      · omega
      · exact hz'
    · intro hz
      have := List.rel_of_pairwise_cons hm hz
      rcases List.mem_cons.mp ((h z).mpr (List.mem_cons_of_mem _ hz)) with e | hz'
      · omega
      · exact hz'
theorem compact_rise (zs : List Int) (hs : List.Pairwise (· ≤ ·) zs) : List.Pairwise (· < ·) (Go.Lib.compact zs) := by
  unfold Go.Lib.compact Go.Lib.compactUpTo
  rw [List.pairwise_map, List.pairwise_filter]
  refine List.Pairwise.imp_of_mem (R := (· < ·)) ?_ List.pairwise_lt_range
  intro i j hi hj hlt _ hk
  have hj' := List.mem_range.mp hj
  have hi' := List.mem_range.mp hi
  have g := fun (q : Nat) (h : q < zs.length) => getElem!_pos zs.toArray q (by simpa using h)
  unfold Go.Lib.keeps at hk
  rw [decide_eq_true_eq] at hk
  rcases hk with hk | hk
  · omega
  · rw [g i hi', g j hj']
    rw [g j hj', g (j - 1) (by omega)] at hk
    have h1 := List.pairwise_iff_getElem.mp hs (j - 1) j (by omega) hj' (by omega)
    simp only [List.getElem_toArray] at hk ⊢
    rcases Nat.lt_or_ge i (j - 1) with h2 | h2
    · have h3 := List.pairwise_iff_getElem.mp hs i (j - 1) hi' (by omega) h2
      omega
    · have e : i = j - 1 := by omega
      subst e
      omega
theorem compact_mem (zs : List Int) (x : Int) : x ∈ Go.Lib.compact zs ↔ x ∈ zs := by
  unfold Go.Lib.compact Go.Lib.compactUpTo
  have g := fun (q : Nat) (h : q < zs.length) => getElem!_pos zs.toArray q (by simpa using h)
  rw [List.mem_map]
  constructor
  · rintro ⟨j, hj, rfl⟩
    have hj' := List.mem_range.mp (List.mem_filter.mp hj).1
    rw [g j hj']
    simp
  · intro hx
    obtain ⟨j, hj, rfl⟩ := List.getElem_of_mem hx
    have : ∀ (q : Nat) (hq : q ≤ j), zs[q]'(by omega) = zs[j] → ∃ a, a ∈ List.filter (Go.Lib.keeps zs.toArray) (List.range zs.length) ∧ zs.toArray[a]! = zs[j] := by
      intro q
      induction q with
      | zero =>
        intro _ h
        exact ⟨0, List.mem_filter.mpr ⟨List.mem_range.mpr (by omega), by unfold Go.Lib.keeps; simp⟩, by rw [g 0 (by omega)]; simpa using h⟩
      | succ q ih =>
        intro hq h
        by_cases hc : zs[q]'(by omega) = zs[j]
        · exact ih (by omega) hc
        · refine ⟨q + 1, List.mem_filter.mpr ⟨List.mem_range.mpr (by omega), ?_⟩, by rw [g (q + 1) (by omega)]; simpa using h⟩
          unfold Go.Lib.keeps
          rw [decide_eq_true_eq, g (q + 1) (by omega), Nat.add_sub_cancel, g q (by omega)]
          right
          simp only [List.getElem_toArray]
          rw [h]
          exact fun e => hc e.symm
    exact this j (Nat.le_refl _) rfl
def putAllU : List Int → List Int → List Int
  | o, [] => o
  | o, x :: l => putAllU (putU x o) l
theorem putAllU_mem : ∀ (l o : List Int) (x : Int), x ∈ putAllU o l ↔ x ∈ o ∨ x ∈ l
  | [], o, x => by rw [putAllU]; simp
  | y :: l, o, x => by
    rw [putAllU, putAllU_mem l, putU_mem, List.mem_cons]
    constructor
    · rintro ((h | h) | h)
      · exact Or.inr (Or.inl h)
      · exact Or.inl h
      · exact Or.inr (Or.inr h)
    · rintro (h | h | h)
      · exact Or.inl (Or.inr h)
      · exact Or.inl (Or.inl h)
      · exact Or.inr h
theorem putAllU_rise : ∀ (l : List Int) {o : List Int}, List.Pairwise (· < ·) o → List.Pairwise (· < ·) (putAllU o l)
  | [], _, h => h
  | y :: l, _, h => by rw [putAllU]; exact putAllU_rise l (putU_rise y h)
theorem dirty_eq (l : List Int) : Go.Lib.compact (l.mergeSort fun x y => decide (x ≤ y)) = putAllU [] l := by
  refine rise_ext (compact_rise _ ?_) (putAllU_rise l List.Pairwise.nil) (fun x => ?_)
  · have := List.pairwise_mergeSort (le := fun x y : Int => decide (x ≤ y)) (fun a b c h1 h2 => by rw [decide_eq_true_eq] at *; omega) (fun a b => by rw [Bool.or_eq_true, decide_eq_true_eq, decide_eq_true_eq]; omega) l
    exact this.imp (fun h => of_decide_eq_true h)
  · rw [compact_mem, List.mem_mergeSort, putAllU_mem]
    simp

theorem rd_nat (l : List Int) (i : Nat) : rd l (i : Int) = l.getD i 0 := by unfold rd; rw [Int.toNat_natCast]
theorem impl_dirty_l (ws : List S42) (hw : ws.length ≤ 60) (d : Nat) : ∀ (i : Nat) (o : List Int), i + d = ws.length → o.length = i → Ev (fun k => impl_DirtyOf.l0 k o ws (ws.length : Int) (i : Int)) (putAllU [] (o ++ (ws.drop i).map S42.f0), true) := by
  induction d with
  | zero =>
    intro i o hi ho
    rw [List.drop_eq_nil_of_le (by omega), List.map_nil, List.append_nil, ← dirty_eq]
    refine Ev.step (fun k => by simp only [impl_DirtyOf.l0]; rw [if_neg (by omega)]) ?_
    exact ev_to_some (show slices_Compact_int_int.f o = some (Lib.compact (o.mergeSort fun x y => decide (x ≤ y))) by unfold slices_Compact_int_int.f; rw [if_pos (by omega)]) (Ev.now _)
  | succ d ih =>
    intro i o hi ho
    have hlt : i < ws.length := by omega
    have hg : ws.getD i z42 = ws[i] := by rw [List.getD_eq_getElem?_getD, List.getElem?_eq_getElem hlt]; rfl
    refine Ev.step (fun k => by simp only [impl_DirtyOf.l0]; rw [if_pos (by omega), if_pos (by omega), if_pos (by omega), if_pos (by omega), rd_write, hg, inc i (by omega)]) ?_
    have := ih (i + 1) (o ++ [(ws[i]).f0]) (by omega) (by rw [List.length_append]; simp only [List.length_cons, List.length_nil]; omega)
    rw [List.append_assoc, List.singleton_append, ← List.map_cons, ← List.drop_eq_getElem_cons hlt] at this
    exact this

/-! ### The cursor that draws -/
theorem cur_wraps (n : Int) (h₀ : 0 ≤ n) (h₁ : n < 2 ^ 64) : IntKind.u64.wrap n = n := by rw [IntKind.wrap_u64]; omega
theorem cur_and (y : Int) (h0 : 0 ≤ y) (h1 : y < 2 ^ 64) : Go.bits .and .u64 y 255 = y % 256 := bits_mask .u64 64 (by decide) cur_wraps 8 (by decide) y h0 h1
theorem cur_byte (u : Int) : ∃ b : Int, wrap64 (Go.bits .and .u64 ((IntKind.u64.wrap u) / 1099511627776) 255) = b ∧ 0 ≤ b ∧ b ≤ 255 := by
  refine ⟨_, rfl, ?_⟩
  have h := IntKind.wrap_u64 u
  generalize IntKind.u64.wrap u = v at h
  have hv : 0 ≤ v ∧ v < 2 ^ 64 := by omega
  clear h
  obtain ⟨y, hy⟩ : ∃ y, y = v / 1099511627776 := ⟨_, rfl⟩
  rw [← hy, cur_and y (by omega) (by omega)]
  clear hv
  unfold wrap64
  omega
theorem cur_rd (xs : List Int) (hb : ∀ x ∈ xs, (Lit.int .u8 x).wf = true) (i : Int) (h0 : 0 ≤ i) (h1 : i < (xs.length : Int)) : 0 ≤ rd xs i ∧ rd xs i ≤ 255 := by
  have hm : rd xs i ∈ xs := by
    unfold rd
    rw [List.getD_eq_getElem?_getD, List.getElem?_eq_getElem (show i.toNat < xs.length by omega)]
    simp
  have := bounds_u8 (hb _ hm)
  omega
section
variable (xs : List Int) (hb : ∀ x ∈ xs, (Lit.int .u8 x).wf = true)
include hb
theorem cur_next (a s n : Int) (h0 : 0 ≤ a) (h1 : a ≤ n) (hn : n < 2 ^ 60) : ∃ b a' s', spec_l1Cur_next.f xs a s = some (b, a', s') ∧ 0 ≤ b ∧ b ≤ 255 ∧ 0 ≤ a' ∧ a' ≤ n + 1 := by
  have hw : wrap64 (a + 1) = a + 1 := by unfold wrap64; omega
  unfold spec_l1Cur_next.f
  rw [hw]
  by_cases c1 : a < (xs.length : Int)
  · have hr := cur_rd xs hb a h0 c1
    rw [if_pos c1, if_pos h0]
    have hr2 : wrap64 (rd xs a) = rd xs a := by unfold wrap64; omega
    rw [hr2]
    by_cases c2 : a + 1 ≤ (xs.length : Int)
    · rw [if_pos c2]; exact ⟨_, _, _, rfl, hr.1, hr.2, by omega, by omega⟩
    · omega
  · rw [if_neg c1, if_neg (by omega)]
    obtain ⟨b, hb1, hb2, hb3⟩ := cur_byte ((IntKind.u64.wrap ((IntKind.u64.wrap (s * 6364136223846793005)) + 0)) + 1442695040888963407)
    rw [hb1]
    exact ⟨_, _, _, rfl, hb2, hb3, by omega, by omega⟩
theorem cur_pick (a s n m : Int) (h0 : 0 ≤ a) (h1 : a ≤ n) (hn : n < 2 ^ 59) (hm : m < 2 ^ 40) : ∃ b a' s', spec_l1Cur_pick.f xs a s m = some (b, a', s') ∧ 0 ≤ b ∧ (b < m ∨ b = 0) ∧ 0 ≤ a' ∧ a' ≤ n + 2 := by
  unfold spec_l1Cur_pick.f
  by_cases c1 : m ≤ 1
  · rw [if_pos c1]; exact ⟨0, a, s, rfl, by omega, .inr rfl, h0, by omega⟩
  · obtain ⟨b, a1, s1, e1, b0, b1, p0, p1⟩ := cur_next xs hb a s n h0 h1 (by omega)
    rw [if_neg c1, e1]
    simp only [Option.bind_some]
    by_cases c2 : m > 200
    · obtain ⟨b2, a2, s2, e2, q0, q1, r0, r1⟩ := cur_next xs hb a1 s1 (n + 1) p0 p1 (by omega)
      rw [if_pos c2, e2]
      simp only [Option.bind_some]
      rw [if_neg (by omega)]
      have hw : wrap64 ((wrap64 (b * 256)) + b2) = b * 256 + b2 := by unfold wrap64; omega
      rw [hw, Int.tmod_eq_emod_of_nonneg (by omega)]
      have h1 := Int.emod_nonneg (b * 256 + b2) (show m ≠ 0 by omega)
      have h2 := Int.emod_lt_of_pos (b * 256 + b2) (show 0 < m by omega)
      exact ⟨_, _, _, rfl, h1, .inl h2, r0, by omega⟩
    · rw [if_neg c2, if_neg (by omega), Int.tmod_eq_emod_of_nonneg (by omega)]
      have h1 := Int.emod_nonneg b (show m ≠ 0 by omega)
      have h2 := Int.emod_lt_of_pos b (show 0 < m by omega)
      exact ⟨_, _, _, rfl, h1, .inl h2, p0, by omega⟩
end

section
variable (xs : List Int) (hb : ∀ x ∈ xs, (Lit.int .u8 x).wf = true)
include hb
theorem cur_among (a s n : Int) (L : List Int) (hL : 0 < L.length) (hL2 : L.length < 2 ^ 39) (h0 : 0 ≤ a) (h1 : a ≤ n) (hn : n < 2 ^ 59) : ∃ b a' s', spec_l1Cur_among.f xs a s L = some (b, a', s') ∧ b ∈ L ∧ 0 ≤ a' ∧ a' ≤ n + 2 := by
  obtain ⟨i, a1, s1, e1, i0, i1, p0, p1⟩ := cur_pick xs hb a s n (L.length : Int) h0 h1 hn (by omega)
  unfold spec_l1Cur_among.f
  rw [e1]
  simp only [Option.bind_some]
  rw [if_pos i0, if_pos (by omega)]
  refine ⟨_, _, _, rfl, ?_, p0, p1⟩
  unfold rd
  rw [List.getD_eq_getElem?_getD, List.getElem?_eq_getElem (show i.toNat < L.length by omega)]
  simp
end

section
variable (xs : List Int) (hb : ∀ x ∈ xs, (Lit.int .u8 x).wf = true)
include hb
theorem cur_one (a s n m : Int) (h0 : 0 ≤ a) (h1 : a ≤ n) (hn : n < 2 ^ 59) (hm : m < 2 ^ 40) : ∃ b a' s', spec_l1Cur_one.f xs a s m = some (b, a', s') ∧ 0 ≤ a' ∧ a' ≤ n + 2 := by
  obtain ⟨i, a1, s1, e1, i0, i1, p0, p1⟩ := cur_pick xs hb a s n m h0 h1 hn hm
  unfold spec_l1Cur_one.f
  rw [e1]
  exact ⟨_, _, _, rfl, p0, p1⟩
end

/-! ### Texts that are drawn -/
section
variable (cs : List Int) (hb : ∀ x ∈ cs, (Lit.int .u8 x).wf = true)
include hb
theorem d_text_l (m : Nat) (hm : m < 2 ^ 40) (N : Int) (hN : N < 2 ^ 50) (d : Nat) : ∀ (i : Nat) (ys : List Int) (a s : Int), i + d = m → ys.length = m → 0 ≤ a → a ≤ N + 2 * (i : Int) →
    ∃ t a' s', Ev (fun k => spec_l1Cur_text.l0 k ys (m : Int) (i : Int) cs a s) (t, a', s') ∧ t.size = m ∧ 0 ≤ a' ∧ a' ≤ N + 2 * (m : Int) := by
  induction d with
  | zero =>
    intro i ys a s hi hy h0 h1
    exact ⟨strOfNums ys, a, s, Ev.step (fun k => by simp only [spec_l1Cur_text.l0]; rw [if_neg (by omega)]) (Ev.now _), by rw [strOfNums_size]; exact hy, h0, by omega⟩
  | succ d ih =>
    intro i ys a s hi hy h0 h1
    obtain ⟨b, a1, s1, e1, b0, b1, p0, p1⟩ := cur_pick cs hb a s (N + 2 * (i : Int)) 256 h0 h1 (by omega) (by omega)
    obtain ⟨t, a2, s2, h, ht, q0, q1⟩ := ih (i + 1) (ys.set i (b % 256)) a1 s1 (by omega) (by rw [List.length_set]; exact hy) p0 (by omega)
    refine ⟨t, a2, s2, Ev.step (fun k => ?_) h, ht, q0, q1⟩
    simp only [spec_l1Cur_text.l0]
    rw [if_pos (by omega), e1]
    simp only [Option.bind_some]
    rw [if_pos (by omega), if_pos (by omega), Int.toNat_natCast, inc i (by omega)]
theorem d_text (m : Nat) (hm : m < 2 ^ 40) (N a s : Int) (hN : N < 2 ^ 50) (h0 : 0 ≤ a) (h1 : a ≤ N) : ∃ t a' s', Ev (fun k => spec_l1Cur_text.f k cs a s (m : Int)) (t, a', s') ∧ t.size = m ∧ 0 ≤ a' ∧ a' ≤ N + 2 * (m : Int) := by
  obtain ⟨t, a2, s2, h, ht, q0, q1⟩ := d_text_l cs hb m hm N hN m 0 (List.replicate m 0) a s (by omega) (by simp) h0 (by omega)
  refine ⟨t, a2, s2, ?_, ht, q0, q1⟩
  unfold spec_l1Cur_text.f
  refine evp (by omega) (evp (by omega) ?_)
  rw [Int.toNat_natCast]
  refine ev_some ?_
  rw [List.length_replicate]
  exact h
end

/-! ### Devices: what the writes leave -/
theorem doneP_snoc (p : Int → Bool) (w : S42) : ∀ (ws : List S42) (i : Int) (o : List ByteArray), p (i + (ws.length : Int)) = true → doneP p (ws ++ [w]) i o = (doneP p ws i o).set w.f0.toNat w.f1
  | [], i, o, h => by
    rw [List.nil_append, doneP, doneP, doneP, if_pos (by simpa using h)]
  | s :: l, i, o, h => by
    rw [List.cons_append, doneP, doneP]
    exact doneP_snoc p w l (i + 1) _ (by rw [List.length_cons] at h; rw [show i + 1 + (l.length : Int) = i + ((l.length + 1 : Nat) : Int) by omega]; exact h)
theorem doneP_same (p q : Int → Bool) : ∀ (ws : List S42) (i : Int) (o : List ByteArray), (∀ j, i ≤ j → j < i + (ws.length : Int) → p j = q j) → doneP p ws i o = doneP q ws i o
  | [], _, _, _ => rfl
  | s :: l, i, o, h => by
    rw [doneP, doneP, h i (by omega) (by rw [List.length_cons]; omega)]
    exact doneP_same p q l (i + 1) _ (fun j h1 h2 => h j (by omega) (by rw [List.length_cons]; omega))
theorem doneP_far (p : Int → Bool) (j : Nat) : ∀ (ws : List S42) (i : Int) (o : List ByteArray), (∀ s ∈ ws, okW o.length s ∧ s.f0 ≠ (j : Int)) → (doneP p ws i o).getD j ByteArray.empty = o.getD j ByteArray.empty
  | [], _, _, _ => rfl
  | s :: l, i, o, h => by
    rw [doneP]
    have hs := h s List.mem_cons_self
    rw [doneP_far p j l (i + 1) _ (fun t ht => by
      have := h t (List.mem_cons_of_mem _ ht)
      refine ⟨?_, this.2⟩
      split
      · rw [List.length_set]; exact this.1
      · exact this.1)]
    split
    · have hlt : s.f0.toNat < o.length := by have := hs.1; unfold okW at this; omega
      rw [gset _ _ _ _ _ hlt, if_neg (by have := hs.1; unfold okW at this; have := hs.2; omega)]
    · rfl
theorem doneP_size (p : Int → Bool) : ∀ (ws : List S42) (i : Int) (o : List ByteArray), (∀ x ∈ o, x.size = 8) → (∀ s ∈ ws, s.f1.size = 8) → ∀ x ∈ doneP p ws i o, x.size = 8
  | [], _, _, h, _ => h
  | s :: l, i, o, h, hw => by
    rw [doneP]
    refine doneP_size p l (i + 1) _ (fun x hx => ?_) (fun t ht => hw t (List.mem_cons_of_mem _ ht))
    split at hx
    · rcases List.mem_or_eq_of_mem_set hx with h1 | h1
      · exact h x h1
      · rw [h1]; exact hw s List.mem_cons_self
    · exact h x hx
theorem good_done {xs : List ByteArray} {ws : List S42} (h : goodD xs ws = true) (p : Int → Bool) : goodD (doneP p ws 0 xs) [] = true := by
  obtain ⟨g1, g2, g3, g4⟩ := good_valid h
  unfold goodD
  simp only [Bool.and_eq_true, decide_eq_true_eq, Bool.not_eq_true', List.any_eq_false, doneP_len]
  refine ⟨g1, by simp, fun x hx => ?_, by simp⟩
  rw [doneP_size p ws 0 xs g3 (fun s hs => (g4 s hs).2) x hx]
  decide
theorem safe_i {xs : List ByteArray} {ws : List S42} (h : goodD xs ws = true) (n : Nat) (hn : n < xs.length) : impl_SafeSector.f xs ws (n : Int) = some (xs.getD n ByteArray.empty, true) := by
  have g := (good_valid h).1
  unfold impl_SafeSector.f
  rw [impl_isSector' xs ws _ (by omega), h, decide_eq_true (show (n : Int) ≥ 0 ∧ (n : Int) ≤ (xs.length : Int) - 1 by omega)]
  simp only [Option.bind_some]
  rw [if_pos (show (true && true) = true from rfl), if_pos (by omega), if_pos (by omega), rdOf_nat]
theorem read_i {xs : List ByteArray} {ws : List S42} (h : goodD xs ws = true) (n : Nat) (hn : n < xs.length) : impl_ReadSector.f xs ws (n : Int) = some ((doneP (fun _ => true) ws 0 xs).getD n ByteArray.empty, true) := by
  obtain ⟨g1, g2, g3, g4⟩ := good_valid h
  have hln := doneP_len (fun _ => true) ws 0 xs
  unfold impl_ReadSector.f
  rw [impl_isSector' xs ws _ (by omega), h, decide_eq_true (show (n : Int) ≥ 0 ∧ (n : Int) ≤ (xs.length : Int) - 1 by omega)]
  simp only [Option.bind_some]
  rw [if_pos (show (true && true) = true from rfl), clone_str xs (by omega)]
  simp only [Option.bind_some]
  rw [perf_done (fun _ => true) ws 0 xs (fun s hs => (g4 s hs).1)]
  simp only [Option.bind_some]
  rw [if_pos (by omega), if_pos (by omega), rdOf_nat]
theorem flush_i {xs : List ByteArray} {ws : List S42} (h : goodD xs ws = true) : impl_FlushDevice.f xs ws = some (doneP (fun _ => true) ws 0 xs, [], true) := by
  obtain ⟨g1, g2, g3, g4⟩ := good_valid h
  unfold impl_FlushDevice.f
  rw [h, if_pos rfl, clone_str xs (by omega)]
  simp only [Option.bind_some]
  rw [perf_done (fun _ => true) ws 0 xs (fun s hs => (g4 s hs).1)]
  rfl
theorem flush_s {xs : List ByteArray} {ws : List S42} (h : goodD xs ws = true) : Ev (fun k => spec_FlushDevice.f k xs ws) (doneP (fun _ => true) ws 0 xs, [], true) := by
  obtain ⟨g1, g2, g3, g4⟩ := good_valid h
  have hs := spec_goodD xs ws (by omega) (by omega)
  rw [h] at hs
  unfold spec_FlushDevice.f
  exact Ev.bind hs (evp rfl (Ev.bind (l1done xs ws (by omega) (by omega) (fun s hs => (g4 s hs).1)) (Ev.now _)))
theorem crash_i {xs : List ByteArray} {ws : List S42} (h : goodD xs ws = true) (ks : List Bool) (hk : ks.length = ws.length) : impl_CrashDevice.f xs ws ks = some (doneP (rdOf false ks) ws 0 xs, [], true) := by
  obtain ⟨g1, g2, g3, g4⟩ := good_valid h
  unfold impl_CrashDevice.f
  rw [h, if_pos rfl, if_pos hk, clone_str xs (by omega)]
  simp only [Option.bind_some]
  rw [perf_done _ ws 0 xs (fun s hs => (g4 s hs).1)]
  rfl
theorem write_i (xs : List ByteArray) (ws : List S42) (n : Int) (s : ByteArray) (hx : xs.length < 2 ^ 40) (hw : ws.length < 2 ^ 40) : impl_WriteSector.f xs ws n s = if goodD xs ws = true then (if goodD xs (ws ++ [⟨n, s⟩]) = true then some (xs, ws ++ [⟨n, s⟩], true) else some ([], [], false)) else some ([], [], false) := by
  unfold impl_WriteSector.f
  rw [clone_str xs hx, clone_w ws hw]
  simp only [Option.bind_some, List.length_cons, List.length_nil]
  rw [if_pos (by omega)]
  rfl
theorem write_s (xs : List ByteArray) (ws : List S42) (n : Int) (s : ByteArray) (hx : xs.length < 2 ^ 40) (hw : ws.length < 2 ^ 40) : Ev (fun k => spec_WriteSector.f k xs ws n s) (if goodD xs ws = true then (if goodD xs (ws ++ [⟨n, s⟩]) = true then (xs, ws ++ [⟨n, s⟩], true) else ([], [], false)) else ([], [], false)) := by
  obtain ⟨rx, rw_, ok, _, _, e1, e2⟩ := both_WriteSector xs ws n s hx hw
  rw [write_i xs ws n s hx hw] at e2
  have : (rx, rw_, ok) = (if goodD xs ws = true then (if goodD xs (ws ++ [⟨n, s⟩]) = true then (xs, ws ++ [⟨n, s⟩], true) else ([], [], false)) else ([], [], false)) := by
    apply Option.some.inj
    rw [← e2]
    split
    · split <;> rfl
    · rfl
  rw [← this]
  exact e1
/-! ### Same texts -/
theorem txts_l (xs : List ByteArray) (hl : xs.length < 2 ^ 40) (d : Nat) : ∀ i : Nat, i + d = xs.length → Ev (fun k => laws_sameTexts.l0 k xs xs (xs.length : Int) (i : Int)) true := by
  induction d with
  | zero => intro i hi; exact Ev.step (fun k => by simp only [laws_sameTexts.l0]; rw [if_neg (by omega)]) (Ev.now _)
  | succ d ih => intro i hi; exact Ev.step (fun k => by simp only [laws_sameTexts.l0, if_true]; rw [if_pos (by omega), if_pos (by omega), if_pos (by omega), if_pos (by omega), inc i (by omega)]) (ih (i + 1) (by omega))
theorem txts (xs : List ByteArray) (hl : xs.length < 2 ^ 40) : Ev (fun k => laws_sameTexts.f k xs xs) true := by
  unfold laws_sameTexts.f
  exact evp rfl (txts_l xs hl xs.length 0 (by omega))
/-! ### Devices that are drawn -/
section
variable (cs : List Int) (hb : ∀ x ∈ cs, (Lit.int .u8 x).wf = true)
include hb
theorem d_write (m : Int) (hm0 : 0 ≤ m) (hm : m < 2 ^ 39) (N a s : Int) (hN : N < 2 ^ 39) (h0 : 0 ≤ a) (h1 : a ≤ N) : ∃ n t a' s', Ev (fun k => spec_l1Cur_write.f k cs a s m) (n, t, a', s') ∧ 0 ≤ a' ∧ a' ≤ N + 40 := by
  obtain ⟨b, a1, s1, e1, b0, b1, p0, p1⟩ := cur_pick cs hb a s N m h0 h1 (by omega) (by omega)
  obtain ⟨t, a2, s2, e2, ht, q0, q1⟩ := d_text cs hb 8 (by omega) (N + 2) a1 s1 (by omega) p0 p1
  obtain ⟨o, a3, s3, e3, r0, r1⟩ := cur_one cs hb a2 s2 (N + 18) 60 q0 (by omega) (by omega) (by omega)
  unfold spec_l1Cur_write.f
  cases o with
  | true =>
    obtain ⟨c, a4, s4, e4, _, t0, t1⟩ := cur_among cs hb a3 s3 (N + 20) [(-1), 32] (by simp) (by simp) r0 (by omega) (by omega)
    obtain ⟨o2, a5, s5, e5, u0, u1⟩ := cur_one cs hb a4 s4 (N + 22) 60 t0 (by omega) (by omega) (by omega)
    cases o2 with
    | true => exact ⟨c, _, a5, s5, ev_to_some e1 (Ev.bind e2 (ev_to_some e3 (evp rfl (ev_to_some e4 (ev_to_some e5 (evp rfl (Ev.now _))))))), u0, by omega⟩
    | false => exact ⟨c, _, a5, s5, ev_to_some e1 (Ev.bind e2 (ev_to_some e3 (evp rfl (ev_to_some e4 (ev_to_some e5 (evn (by simp) (Ev.now _))))))), u0, by omega⟩
  | false =>
    obtain ⟨o2, a5, s5, e5, u0, u1⟩ := cur_one cs hb a3 s3 (N + 20) 60 r0 (by omega) (by omega) (by omega)
    cases o2 with
    | true => exact ⟨b, _, a5, s5, ev_to_some e1 (Ev.bind e2 (ev_to_some e3 (evn (by simp) (ev_to_some e5 (evp rfl (Ev.now _)))))), u0, by omega⟩
    | false => exact ⟨b, _, a5, s5, ev_to_some e1 (Ev.bind e2 (ev_to_some e3 (evn (by simp) (ev_to_some e5 (evn (by simp) (Ev.now _)))))), u0, by omega⟩
theorem d_dev_l (m : Int) (hm0 : 0 ≤ m) (hm : m < 100) (d : Nat) : ∀ (xs : List ByteArray) (ws : List S42) (N a s : Int), d ≤ 10 → goodD xs ws = true → N + 100 * (d : Int) < 2 ^ 38 → 0 ≤ a → a ≤ N →
    ∃ xs' ws' a' s', Ev (fun k => spec_l1Cur_device.l0 k m (d : Int) cs a s xs ws) (xs', ws', a', s') ∧ xs'.length ≤ 32 ∧ ws'.length ≤ 61 ∧ 0 ≤ a' ∧ a' ≤ N + 100 * (d : Int) + 2 := by
  induction d with
  | zero =>
    intro xs ws N a s _ hg hN h0 h1
    obtain ⟨g1, g2, g3, g4⟩ := good_valid hg
    obtain ⟨b, a1, s1, e1, b0, b1, p0, p1⟩ := cur_pick cs hb a s N 40 h0 h1 (by omega) (by omega)
    by_cases c0 : b = 0
    · exact ⟨_, ws, a1, s1, Ev.step (fun k => by simp only [spec_l1Cur_device.l0]; rw [if_neg (by omega), e1]; simp only [Option.bind_some]; rw [if_pos c0, if_pos (by omega)]) (Ev.now _), by rw [List.length_set]; exact g1.2, by omega, p0, by omega⟩
    · by_cases c1 : b = 1
      · exact ⟨xs, _, a1, s1, Ev.step (fun k => by simp only [spec_l1Cur_device.l0]; rw [if_neg (by omega), e1]; simp only [Option.bind_some]; rw [if_neg c0, if_pos c1, if_pos (by omega)]) (Ev.now _), g1.2, by rw [List.length_append]; simp only [List.length_cons, List.length_nil]; omega, p0, by omega⟩
      · exact ⟨xs, ws, a1, s1, Ev.step (fun k => by simp only [spec_l1Cur_device.l0]; rw [if_neg (by omega), e1]; simp only [Option.bind_some]; rw [if_neg c0, if_neg c1]) (Ev.now _), g1.2, by omega, p0, by omega⟩
  | succ d ih =>
    intro xs ws N a s hd hg hN h0 h1
    obtain ⟨g1, g2, g3, g4⟩ := good_valid hg
    obtain ⟨n, t, a1, s1, e1, p0, p1⟩ := d_write cs hb m hm0 (by omega) N a s (by omega) h0 h1
    have ew := write_s xs ws n t (by omega) (by omega)
    rw [if_pos hg] at ew
    have w1 : wrap64 (((d + 1 : Nat) : Int) - 1) = (d : Int) := by unfold wrap64; omega
    have step : ∀ (ys : List ByteArray) (vs : List S42), goodD ys vs = true → ∃ xs' ws' a' s', Ev (fun k => spec_l1Cur_device.j1 k m ((d + 1 : Nat) : Int) cs a1 s1 ys vs) (xs', ws', a', s') ∧ xs'.length ≤ 32 ∧ ws'.length ≤ 61 ∧ 0 ≤ a' ∧ a' ≤ N + 100 * ((d + 1 : Nat) : Int) + 2 := by
      intro ys vs hgy
      obtain ⟨o, a2, s2, e2, q0, q1⟩ := cur_one cs hb a1 s1 (N + 40) 5 p0 (by omega) (by omega) (by omega)
      cases o with
      | true =>
        obtain ⟨xs', ws', a', s', e, k1, k2, k3, k4⟩ := ih (doneP (fun _ => true) vs 0 ys) [] (N + 42) a2 s2 (by omega) (good_done hgy _) (by omega) q0 (by omega)
        exact ⟨xs', ws', a', s', Ev.step (fun k => by simp only [spec_l1Cur_device.j1]; rw [e2]; simp only [Option.bind_some]; rw [if_pos True.intro, w1]) (Ev.bind (flush_s hgy) e), k1, k2, k3, by omega⟩
      | false =>
        obtain ⟨xs', ws', a', s', e, k1, k2, k3, k4⟩ := ih ys vs (N + 42) a2 s2 (by omega) hgy (by omega) q0 (by omega)
        exact ⟨xs', ws', a', s', Ev.step (fun k => by simp only [spec_l1Cur_device.j1]; rw [e2]; simp only [Option.bind_some]; rw [if_neg (by decide), w1]) e, k1, k2, k3, by omega⟩
    by_cases hg2 : goodD xs (ws ++ [⟨n, t⟩]) = true
    · rw [if_pos hg2] at ew
      obtain ⟨xs', ws', a', s', e, k⟩ := step xs (ws ++ [⟨n, t⟩]) hg2
      exact ⟨xs', ws', a', s', Ev.step (fun k => by simp only [spec_l1Cur_device.l0]; rw [if_pos (by omega)]) (Ev.bind e1 (Ev.bind ew (evp rfl e))), k⟩
    · rw [if_neg hg2] at ew
      obtain ⟨xs', ws', a', s', e, k⟩ := step xs ws hg
      exact ⟨xs', ws', a', s', Ev.step (fun k => by simp only [spec_l1Cur_device.l0]; rw [if_pos (by omega)]) (Ev.bind e1 (Ev.bind ew (evn (by show ¬ (false = true); decide) e))), k⟩
omit hb in
theorem d_new_l (m : Nat) (hm : m ≤ 32) (z : ByteArray) (hz : spec_l1Zeros.f 8 = some z) (d : Nat) : ∀ (i : Nat) (o : List ByteArray), i + d = m → o.length = i → (∀ x ∈ o, x = z) → ∃ xs, Ev (fun k => spec_NewDevice.l0 k (m : Int) (i : Int) o) (xs, [], true) ∧ xs.length = m ∧ ∀ x ∈ xs, x = z := by
  induction d with
  | zero => intro i o hi ho hx; exact ⟨o, Ev.step (fun k => by simp only [spec_NewDevice.l0]; rw [if_neg (by omega)]) (Ev.now _), by omega, hx⟩
  | succ d ih =>
    intro i o hi ho hx
    obtain ⟨xs, e, h⟩ := ih (i + 1) (o ++ [z]) (by omega) (by rw [List.length_append]; simp only [List.length_cons, List.length_nil]; omega) (fun x h => by
      rcases List.mem_append.mp h with h | h
      · exact hx x h
      · exact List.mem_singleton.mp h)
    exact ⟨xs, Ev.step (fun k => by simp only [spec_NewDevice.l0]; rw [if_pos (by omega), hz]; simp only [Option.bind_some]; rw [if_pos (by omega), inc i (by omega)]) e, h⟩
omit hb in
theorem d_new (m : Nat) (h1 : 1 ≤ m) (hm : m ≤ 32) : ∃ xs, Ev (fun k => spec_NewDevice.f k (m : Int)) (xs, [], true) ∧ goodD xs [] = true := by
  have hz : spec_l1Zeros.f 8 = some (strOfNums (List.replicate 8 0)) := by unfold spec_l1Zeros.f; rw [if_pos (by omega), if_pos (by decide)]; rfl
  obtain ⟨xs, e, hl, hx⟩ := d_new_l m hm _ hz m 0 [] (by omega) rfl (by simp)
  refine ⟨xs, ?_, ?_⟩
  · unfold spec_NewDevice.f
    exact ev_to_some (l1In_tells _ _ _) (evp (decide_eq_true (by omega)) e)
  · unfold goodD
    simp only [Bool.and_eq_true, decide_eq_true_eq, Bool.not_eq_true', List.any_eq_false]
    refine ⟨by omega, by simp, fun x h => ?_, by simp⟩
    rw [hx x h, strOfNums_size]
    decide
theorem d_device : ∃ xs ws a' s', Ev (fun k => spec_l1Cur_device.f k cs 0 0) (xs, ws, a', s') ∧ xs.length ≤ 32 ∧ ws.length ≤ 61 ∧ 0 ≤ a' ∧ a' ≤ 5000 := by
  obtain ⟨b, a1, s1, e1, b0, b1, p0, p1⟩ := cur_pick cs hb 0 0 0 6 (by omega) (by omega) (by omega) (by omega)
  obtain ⟨c, a2, s2, e2, c0, c1, q0, q1⟩ := cur_pick cs hb a1 s1 2 8 p0 (by omega) (by omega) (by omega)
  obtain ⟨m, hm⟩ := Int.eq_ofNat_of_zero_le b0
  obtain ⟨r, hr⟩ := Int.eq_ofNat_of_zero_le c0
  have w1 : wrap64 (1 + b) = ((1 + m : Nat) : Int) := by rw [hm]; unfold wrap64; omega
  obtain ⟨xs, e3, hg⟩ := d_new (1 + m) (by omega) (by omega)
  obtain ⟨xs', ws', a', s', e4, k1, k2, k3, k4⟩ := d_dev_l cs hb ((1 + m : Nat) : Int) (by omega) (by omega) r xs [] 4 a2 s2 (by omega) hg (by omega) q0 (by omega)
  refine ⟨xs', ws', a', s', ?_, k1, k2, k3, by omega⟩
  unfold spec_l1Cur_device.f
  rw [← hr] at e4
  refine ev_to_some e1 ?_
  rw [w1]
  exact Ev.bind e3 (ev_to_some e2 e4)
theorem d_bools_l (d : Nat) : ∀ (o : List Bool) (N a s : Int), o.length + d ≤ 1000 → N + 2 * (d : Int) < 2 ^ 38 → 0 ≤ a → a ≤ N → ∃ ks a' s', Ev (fun k => spec_l1Cur_bools.l0 k (d : Int) o cs a s) (ks, a', s') ∧ ks.length = o.length + d := by
  induction d with
  | zero => intro o N a s _ _ h0 h1; exact ⟨o, a, s, Ev.step (fun k => by simp only [spec_l1Cur_bools.l0]; rw [if_neg (by omega)]) (Ev.now _), rfl⟩
  | succ d ih =>
    intro o N a s ho hN h0 h1
    obtain ⟨b, a1, s1, e1, p0, p1⟩ := cur_one cs hb a s N 2 h0 h1 (by omega) (by omega)
    obtain ⟨ks, a', s', e, hk⟩ := ih (o ++ [b]) (N + 2) a1 s1 (by rw [List.length_append]; simp only [List.length_cons, List.length_nil]; omega) (by omega) p0 (by omega)
    have w1 : wrap64 (((d + 1 : Nat) : Int) - 1) = (d : Int) := by unfold wrap64; omega
    exact ⟨ks, a', s', Ev.step (fun k => by simp only [spec_l1Cur_bools.l0]; rw [if_pos (by omega), e1]; simp only [Option.bind_some]; rw [if_pos (by omega), w1]) e, by rw [hk, List.length_append]; simp only [List.length_cons, List.length_nil]; omega⟩
theorem d_crash : ∃ xs ws ks, Ev (fun k => spec_DrawCrashDevice.f k cs) (xs, ws, ks) ∧ xs.length ≤ 32 ∧ ws.length ≤ 61 ∧ ks.length ≤ 100 := by
  obtain ⟨xs, ws, a, s, e, k1, k2, k3, k4⟩ := d_device cs hb
  obtain ⟨o, a1, s1, e1, p0, p1⟩ := cur_one cs hb a s 5000 20 k3 k4 (by omega) (by omega)
  unfold spec_DrawCrashDevice.f
  cases o with
  | true =>
    have w1 : wrap64 ((ws.length : Int) + 1) = ((ws.length + 1 : Nat) : Int) := by unfold wrap64; omega
    obtain ⟨ks, a', s', e2, hk⟩ := d_bools_l cs hb (ws.length + 1) [] 5002 a1 s1 (by simp; omega) (by omega) p0 p1
    refine ⟨xs, ws, ks, Ev.bind e (ev_to_some e1 (evp rfl ?_)), k1, k2, by rw [hk]; simp; omega⟩
    rw [w1]
    exact Ev.bind e2 (Ev.now _)
  | false =>
    obtain ⟨ks, a', s', e2, hk⟩ := d_bools_l cs hb ws.length [] 5002 a1 s1 (by simp; omega) (by omega) p0 p1
    exact ⟨xs, ws, ks, Ev.bind e (ev_to_some e1 (evn (by simp) (Ev.bind e2 (Ev.now _)))), k1, k2, by rw [hk]; simp; omega⟩
end

set_option linter.unusedSectionVars false
theorem dirty_i {xs : List ByteArray} {ws : List S42} (h : goodD xs ws = true) : ∃ ds : List Int, ds.length ≤ 60 ∧ Ev (fun k => impl_DirtyOf.f k xs ws) (ds, true) ∧ ∀ x, x ∈ ds ↔ x ∈ ws.map S42.f0 := by
  obtain ⟨g1, g2, g3, g4⟩ := good_valid h
  refine ⟨putAllU [] (ws.map S42.f0), ?_, ?_, fun x => by rw [putAllU_mem]; simp⟩
  · have : ∀ (l o : List Int), (putAllU o l).length ≤ o.length + l.length := by
      intro l
      induction l with
      | nil => intro o; rw [putAllU]; simp
      | cons y l ih => intro o; rw [putAllU, List.length_cons]; have h1 := ih (putU y o); have h2 := putU_len y o; omega
    have := this (ws.map S42.f0) []
    rw [List.length_map] at this
    simp only [List.length_nil] at this
    omega
  · unfold impl_DirtyOf.f
    refine ev_to_some (impl_goodD xs ws) ?_
    rw [h]
    exact evp rfl (impl_dirty_l ws g2 ws.length 0 [] (by omega) rfl)
section
variable {xs : List ByteArray} {ws : List S42} (hg : goodD xs ws = true)
include hg
theorem dv_l2 (ds : List Int) (hd : ds.length ≤ 60) (cr : List ByteArray) (L : Int) (i : Nat) (hi : i < xs.length) (hq : (i : Int) ∉ ds → rdOf ByteArray.empty cr (i : Int) = xs.getD i ByteArray.empty) (R : Ev (fun k => laws_FnDevice.l1 k ds cr L (wrap64 ((i : Int) + 1)) xs ws) true) (d : Nat) : ∀ (j : Nat) (fl : Bool), j + d = ds.length → (fl = false → (i : Int) ∉ ds.take j) →
    Ev (fun k => laws_FnDevice.l2 k ds (i : Int) (rdOf ByteArray.empty cr (i : Int)) fl cr L (i : Int) ds (ds.length : Int) (j : Int) xs ws) true := by
  induction d with
  | zero =>
    intro j fl hj hf
    refine Ev.step (fun k => by simp only [laws_FnDevice.l2]; rw [if_neg (by omega)]) ?_
    cases fl with
    | true => exact evp rfl R
    | false =>
      have := hf rfl
      rw [List.take_of_length_le (by omega)] at this
      exact evn (by decide) (evp (by omega) (evp (by omega) (evp (by rw [hq this, rdOf_nat]) R)))
  | succ d ih =>
    intro j fl hj hf
    have hlt : j < ds.length := by omega
    refine Ev.step (fun k => by simp only [laws_FnDevice.l2]; rw [if_pos (by omega), if_pos (by omega), if_pos (by omega), inc j (by omega)]) ?_
    cases fl with
    | true => exact evp rfl (ih (j + 1) true (by omega) (fun h => by cases h))
    | false =>
      refine evn (by decide) (ih (j + 1) _ (by omega) (fun h hm => ?_))
      rw [List.take_add_one, List.getElem?_eq_getElem hlt] at hm
      rcases List.mem_append.mp hm with h1 | h1
      · exact hf rfl h1
      · have h2 : (i : Int) = ds[j] := by simpa using h1
        rw [rd_nat, List.getD_eq_getElem?_getD, List.getElem?_eq_getElem hlt, Option.getD_some, ← h2] at h
        simp at h
theorem dv_l1 (ds : List Int) (hd : ds.length ≤ 60) (cr : List ByteArray) (hl : cr.length = xs.length) (hq : ∀ i : Nat, i < xs.length → (i : Int) ∉ ds → cr.getD i ByteArray.empty = xs.getD i ByteArray.empty) (d : Nat) : ∀ i : Nat, i + d = cr.length → Ev (fun k => laws_FnDevice.l1 k ds cr (cr.length : Int) (i : Int) xs ws) true := by
  have hn := (good_valid hg).1
  induction d with
  | zero => intro i hi; exact Ev.step (fun k => by simp only [laws_FnDevice.l1]; rw [if_neg (by omega)]) (Ev.now _)
  | succ d ih =>
    intro i hi
    have R := ih (i + 1) (by omega)
    rw [← inc i (by omega)] at R
    have r2 := dv_l2 hg ds hd cr (cr.length : Int) i (by omega) (fun h => by rw [rdOf_nat]; exact hq i (by omega) h) R ds.length 0 false (by omega) (fun _ => by simp)
    rw [show ((0 : Nat) : Int) = 0 from rfl] at r2
    exact Ev.step (fun k => by simp only [laws_FnDevice.l1]; rw [if_pos (by omega), if_pos (by omega), if_pos (by omega)]) r2
theorem dv_l0 (ks : List Bool) (hk : ks.length = ws.length) (d : Nat) : ∀ (i : Nat) (ys : List Bool), i + d = ws.length → ys.length = ws.length → (∀ j, j < i → ys.getD j false = true) → Ev (fun k => laws_FnDevice.l0 k ys (ws.length : Int) (i : Int) xs ws (doneP (rdOf false ks) ws 0 xs) []) true := by
  obtain ⟨g1, g2, g3, g4⟩ := good_valid hg
  induction d with
  | zero =>
    intro i ys hi hy hj
    obtain ⟨ds, hd, ed, hm⟩ := dirty_i hg
    have hsame : doneP (rdOf false ys) ws 0 xs = doneP (fun _ => true) ws 0 xs := doneP_same _ _ ws 0 xs (fun j h1 h2 => by
      obtain ⟨q, rfl⟩ := Int.eq_ofNat_of_zero_le h1
      rw [rdOf_nat]; exact hj q (by omega))
    have hcr := crash_i hg ys hy
    rw [hsame] at hcr
    refine Ev.step (fun k => by simp only [laws_FnDevice.l0]; rw [if_neg (by omega)]) (ev_to_some (flush_i hg) (ev_to_some hcr (Ev.bind ed (evp rfl (evp rfl (evp rfl (Ev.bind (txts (doneP (fun _ => true) ws 0 xs) (by rw [doneP_len]; omega)) ?_)))))))
    refine Ev.step (fun k => by simp only [laws_FnDevice.j4]; rw [if_neg (by decide)]) ?_
    refine dv_l1 hg ds hd (doneP (rdOf false ks) ws 0 xs) (doneP_len _ _ _ _) (fun q hq hn => doneP_far _ q ws 0 xs (fun s hs => ⟨(g4 s hs).1, fun e => hn ?_⟩)) (doneP (rdOf false ks) ws 0 xs).length 0 (by omega)
    rw [hm]
    exact List.mem_map.mpr ⟨s, hs, e⟩
  | succ d ih =>
    intro i ys hi hy hj
    refine Ev.step (fun k => by simp only [laws_FnDevice.l0]; rw [if_pos (by omega), if_pos (by omega), if_pos (by omega), inc i (by omega), Int.toNat_natCast]) (ih (i + 1) (ys.set i true) (by omega) (by rw [List.length_set]; exact hy) (fun j h => ?_))
    rw [gset _ _ _ _ _ (by omega)]
    split
    · rfl
    · exact hj j (by omega)
end
theorem dv_j1 (cs : List Int) (hb : ∀ x ∈ cs, (Lit.int .u8 x).wf = true) : Ev (fun k => laws_FnDevice.j1 k cs) true := by
  obtain ⟨xs, ws, ks, e, k1, k2, k3⟩ := d_crash cs hb
  obtain ⟨rx, rw_, ok, hrx, hrw, e1, e2⟩ := both_CrashDevice xs ws ks (by omega) (by omega) (by omega)
  refine Ev.step (fun k => by simp only [laws_FnDevice.j1]; rfl) (Ev.bind e (ev_to_some e2 (Ev.bind e1 ?_)))
  rw [bne_self_eq_false]
  refine evn (by decide) (Ev.bind (txts rx hrx) ?_)
  refine Ev.step (fun k => by simp only [laws_FnDevice.j2]; rw [if_neg (by decide)]) ?_
  unfold impl_CrashDevice.f at e2
  by_cases hg : goodD xs ws = true
  · by_cases hk : ks.length = ws.length
    · have e3 := crash_i hg ks hk
      unfold impl_CrashDevice.f at e3
      rw [e3] at e2
      obtain ⟨rfl, h2⟩ := Prod.mk.inj (Option.some.inj e2)
      obtain ⟨rfl, rfl⟩ := Prod.mk.inj h2
      refine evp rfl (evp (by omega) (evp (by omega) (ev_some ?_)))
      rw [Int.toNat_natCast, hk, List.length_replicate]
      exact dv_l0 hg ks hk ws.length 0 (List.replicate ws.length false) (by omega) (by simp) (fun j h => by omega)
    · rw [if_pos hg, if_neg hk] at e2
      obtain ⟨rfl, h2⟩ := Prod.mk.inj (Option.some.inj e2)
      obtain ⟨rfl, rfl⟩ := Prod.mk.inj h2
      exact evn (by decide) (Ev.now _)
  · rw [if_neg hg] at e2
    obtain ⟨rfl, h2⟩ := Prod.mk.inj (Option.some.inj e2)
    obtain ⟨rfl, rfl⟩ := Prod.mk.inj h2
    exact evn (by decide) (Ev.now _)
theorem FnDevice : laws_FnDevice.Pure := by
  intro l0 l1 hl0 _ hb0 hl1 _ hb1
  refine Ev.rounds ?_
  unfold laws_FnDevice.f
  by_cases hbig : (wrap64 ((l0.length : Int) + (l1.length : Int))) > 1048576
  · exact evp hbig (Ev.now _)
  refine evn hbig ?_
  obtain ⟨xs, ws, a, s, e, k1, k2, k3, k4⟩ := d_device l0 hb0
  obtain ⟨n, t, a1, s1, e1, _, _⟩ := d_write l0 hb0 (xs.length : Int) (by omega) (by omega) 5000 a s (by omega) k3 k4
  have ed : Ev (fun k => spec_DrawWriteSector.f k l0) (xs, ws, n, t) := by
    unfold spec_DrawWriteSector.f
    exact Ev.bind e (Ev.bind e1 (Ev.now _))
  have J1 := dv_j1 l1 hb1
  have i1 := write_i xs ws n t (by omega) (by omega)
  have i2 := write_s xs ws n t (by omega) (by omega)
  have i3 := spec_goodD xs ws (by omega) (by omega)
  refine Ev.bind ed ?_
  have no : ∀ b, Ev (fun k => laws_FnDevice.j0 k l1 false false xs ws n t ([] : List ByteArray) ([] : List S42)) b → b = true → Ev (fun k => laws_FnDevice.j0 k l1 false false xs ws n t ([] : List ByteArray) ([] : List S42)) true := fun b h hb => by rw [hb] at h; exact h
  have J0 : Ev (fun k => laws_FnDevice.j0 k l1 false false xs ws n t ([] : List ByteArray) ([] : List S42)) true := Ev.step (fun k => by simp only [laws_FnDevice.j0]; rw [if_neg (by decide), if_neg (by decide)]) J1
  by_cases hg : goodD xs ws = true
  · rw [if_pos hg] at i1 i2
    by_cases hg2 : goodD xs (ws ++ [⟨n, t⟩]) = true
    · rw [if_pos hg2] at i1 i2
      refine ev_to_some i1 (Ev.bind i2 (evn (by show ¬ ((true != true) = true); decide) (ev_to_some (impl_goodD xs ws) (Ev.bind i3 ?_))))
      rw [bne_self_eq_false]
      obtain ⟨g1, g2, g3, g4⟩ := good_valid hg2
      obtain ⟨hok, hsz⟩ := g4 ⟨n, t⟩ (List.mem_append_right _ List.mem_cons_self)
      unfold okW at hok
      obtain ⟨q, hq⟩ := Int.eq_ofNat_of_zero_le (show 0 ≤ n by have := hok.1; exact this)
      have hql : q < xs.length := by have := hok.2; simp only at this; omega
      subst hq
      have hdone : (doneP (fun _ => true) (ws ++ [(⟨(q : Int), t⟩ : S42)]) 0 xs).getD q ByteArray.empty = t := by
        rw [doneP_snoc _ _ _ _ _ rfl, Int.toNat_natCast, gset _ _ _ _ _ (by rw [doneP_len]; exact hql), if_pos rfl]
      refine Ev.step (fun k => by simp only [laws_FnDevice.j0]; rw [if_neg (by decide), if_pos True.intro]) (ev_to_some (read_i hg2 q hql) (ev_to_some (safe_i hg2 q hql) (ev_to_some (safe_i hg q hql) (ev_to_some (flush_i hg2) (ev_to_some (safe_i (good_done hg2 (fun _ => true)) q (by rw [doneP_len]; exact hql)) ?_)))))
      rw [hdone]
      exact evp rfl (evp rfl (evp rfl (evp rfl (evp rfl (evp rfl (evp rfl (evp rfl (evp rfl J1))))))))
    · rw [if_neg hg2] at i1 i2
      refine ev_to_some i1 (Ev.bind i2 (evn (by show ¬ ((false != false) = true); decide) (ev_to_some (impl_goodD xs ws) (Ev.bind i3 ?_))))
      rw [bne_self_eq_false]
      exact J0
  · rw [if_neg hg] at i1 i2
    refine ev_to_some i1 (Ev.bind i2 (evn (by show ¬ ((false != false) = true); decide) (ev_to_some (impl_goodD xs ws) (Ev.bind i3 ?_))))
    rw [bne_self_eq_false]
    exact J0

end Go.Proofs.Ytlhgkbleciokmaa.Pure
