/- The program's NewDevice answers as the reference's at all numbers, in memory of its own; no condition. -/
import Derived.Test.YtlhgkbleciokmaaQFnExactNewDevicex4
import Derived.OpenShut
set_option linter.unusedVariables false
set_option linter.unusedSimpArgs false
namespace Go.Proofs.Ytlhgkbleciokmaa.Pure
open Go.RowKit Go.Proofs.Ytlhgkbleciokmaa.PFnExactNewDevice Go.Proofs.YtlhgkbleciokmaaW.PrintWords Go.Proofs.YtlhgkbleciokmaaW.PrintLast Go.Proofs.YtlhgkbleciokmaaW.PrintMore 

theorem wr64 (n : Nat) (h : n < 2 ^ 62) : wrap64 (n : Int) = (n : Int) := by unfold wrap64; omega
theorem wri (n : Int) (h : 0 ≤ n) (h1 : n < 2 ^ 62) : wrap64 n = n := by unfold wrap64; omega
theorem byte_of {x : Int} (h : (Lit.int .u8 x).wf = true) : ∃ n : Nat, n < 256 ∧ x = (n : Int) := by
  have := bounds_u8 h
  exact ⟨x.toNat, by omega, by omega⟩
theorem shr_nat (b j q : Nat) (hj : j ≤ 8) (hq : q = b / 2 ^ j) : shr .u8 (b : Int) (j : Int) = (q : Int) := by
  unfold shr
  rw [Int.toNat_natCast, Nat.min_eq_left (show j ≤ IntKind.bits .u8 from hj), hq]
  simp
theorem dbl (x : Nat) (hx : x < 256) : wrap64 ((x : Int) * 2) = ((2 * x : Nat) : Int) := by unfold wrap64; omega
theorem inc (j : Nat) (hj : j < 2 ^ 62) : wrap64 ((j : Int) + 1) = ((j + 1 : Nat) : Int) := by unfold wrap64; omega
theorem nn (n : Nat) : ¬ ((n : Int) < 0) := by omega

theorem within_tells (a b c : Int) : impl_within.f a b c = some (decide (a ≥ b ∧ a ≤ c)) := by
  unfold impl_within.f
  split
  · rename_i h; simp [h]
  · rename_i h; simp [h]
theorem l1In_tells (a b c : Int) : spec_l1In.f a b c = some (decide (a ≥ b ∧ a ≤ c)) := by
  unfold spec_l1In.f
  split
  · rename_i h; simp [h]
  · rename_i h; simp [h]

theorem ev_of {α : Type} {g : Nat → Option α} {r : α} (K : Nat) (h : ∀ k, K < k → g k = some r) : Ev g r := ⟨K + 1, fun k hk => h k (by omega)⟩
theorem evp {α : Type} {c : Prop} [Decidable c] {f g : Nat → Option α} {r : α} (h : c) (k : Ev f r) : Ev (fun n => if c then f n else g n) r := Ev.congr (fun _ => if_pos h) k
theorem evn {α : Type} {c : Prop} [Decidable c] {f g : Nat → Option α} {r : α} (h : ¬ c) (k : Ev g r) : Ev (fun n => if c then f n else g n) r := Ev.congr (fun _ => if_neg h) k
theorem ev_some {α β : Type} {a : α} {f : Nat → α → Option β} {r : β} (h : Ev (fun n => f n a) r) : Ev (fun n => (some a).bind (f n)) r := h
theorem ev_to_some {α β : Type} {o : Option α} {a : α} {f : Nat → α → Option β} {r : β} (ho : o = some a) (h : Ev (fun n => f n a) r) : Ev (fun n => o.bind (f n)) r := by subst ho; exact h
theorem maxLen_lt : maxLen < 2 ^ 63 := by decide

theorem gset {α : Type} (z : α) (xs : List α) (i j : Nat) (v : α) (hi : i < xs.length) : (xs.set i v).getD j z = if j = i then v else xs.getD j z := by
  simp only [List.getD_eq_getElem?_getD, List.getElem?_set]
  by_cases h : i = j
  · subst h; simp [hi]
  · rw [if_neg h, if_neg (fun e => h e.symm)]
theorem gext {α : Type} (z : α) {l m : List α} (hl : l.length = m.length) (h : ∀ j, j < l.length → l.getD j z = m.getD j z) : l = m := by
  apply List.ext_getElem hl
  intro j h1 h2
  have := h j h1
  simpa [List.getD_eq_getElem?_getD, h1, h2] using this
theorem rdOf_nat {α : Type} (z : α) (xs : List α) (i : Nat) : rdOf z xs (i : Int) = xs.getD i z := by unfold rdOf; rw [Int.toNat_natCast]
theorem gmem {α : Type} (z : α) {xs : List α} {i : Nat} (h : i < xs.length) : xs.getD i z ∈ xs := by
  rw [List.getD_eq_getElem?_getD]; simp [h]
theorem eq_strs_l (xs : List ByteArray) (hl : xs.length < 2 ^ 40) (d : Nat) : ∀ (i : Nat), i + d = xs.length → Ev (fun k => laws_eqStringS.l0 k xs xs (i : Int)) true := by
  induction d with
  | zero => intro i hi; exact Ev.step (fun k => by simp only [laws_eqStringS.l0]; rw [if_neg (by omega)]) (Ev.now _)
  | succ d ih =>
    intro i hi
    exact Ev.step (fun k => by
      simp only [laws_eqStringS.l0]
      rw [if_pos (by omega), if_pos (by omega), if_pos (by omega), if_pos True.intro, inc i (by omega)]) (ih (i + 1) (by omega))
theorem eq_strs (xs : List ByteArray) (hl : xs.length < 2 ^ 40) : Ev (fun k => laws_eqStringS.f k xs xs) true := by
  unfold laws_eqStringS.f
  exact evp rfl (eq_strs_l xs hl xs.length 0 (by omega))
theorem rd_write (xs : List S42) (i : Nat) : rd_T42 xs (i : Int) = xs.getD i z42 := by unfold rd_T42; rw [Int.toNat_natCast]
theorem eq_writes_l (xs : List S42) (hl : xs.length < 2 ^ 40) (d : Nat) : ∀ (i : Nat), i + d = xs.length → Ev (fun k => laws_eqWriteS.l0 k xs xs (i : Int)) true := by
  induction d with
  | zero => intro i hi; exact Ev.step (fun k => by simp only [laws_eqWriteS.l0]; rw [if_neg (by omega)]) (Ev.now _)
  | succ d ih =>
    intro i hi
    exact Ev.step (fun k => by
      simp only [laws_eqWriteS.l0, laws_eqWrite.f, if_true, Option.bind_some]
      rw [if_pos (by omega), if_pos (by omega), if_pos (by omega), inc i (by omega)]) (ih (i + 1) (by omega))
theorem eq_writes (xs : List S42) (hl : xs.length < 2 ^ 40) : Ev (fun k => laws_eqWriteS.f k xs xs) true := by
  unfold laws_eqWriteS.f
  exact evp rfl (eq_writes_l xs hl xs.length 0 (by omega))
theorem eq_device (xs : List ByteArray) (ws : List S42) (hl : xs.length < 2 ^ 40) (hw : ws.length < 2 ^ 40) : Ev (fun k => laws_eqDevice.f k xs ws xs ws) true :=
  Ev.bind (eq_strs xs hl) (evp rfl (Ev.bind (eq_writes ws hw) (evp rfl (Ev.now _))))

def zt : ByteArray := strOfNums (List.replicate 8 0)
theorem rep_zt : strings_Repeat.f (⟨#[0]⟩ : ByteArray) 8 = some zt := by unfold strings_Repeat.f; rw [if_pos (by decide)]; rfl
theorem zt_size : zt.size = 8 := rfl
theorem new_l (m : Nat) (hm : m ≤ 32) (z : ByteArray) (hz : spec_l1Zeros.f 8 = some z) (d : Nat) : ∀ (i : Nat) (o : List ByteArray), i + d = m → o.length = i → (∀ x ∈ o, x = z) → ∃ xs, Ev (fun k => spec_NewDevice.l0 k (m : Int) (i : Int) o) (xs, [], true) ∧ xs.length = m ∧ ∀ x ∈ xs, x = z := by
  induction d with
  | zero => intro i o hi ho hx; exact ⟨o, Ev.step (fun k => by simp only [spec_NewDevice.l0]; rw [if_neg (by omega)]) (Ev.now _), by omega, hx⟩
  | succ d ih =>
    intro i o hi ho hx
    obtain ⟨xs, e, h⟩ := ih (i + 1) (o ++ [z]) (by omega) (by rw [List.length_append]; simp only [List.length_cons, List.length_nil]; omega) (fun x h => by
      rcases List.mem_append.mp h with h | h
      · exact hx x h
      · exact List.mem_singleton.mp h)
    exact ⟨xs, Ev.step (fun k => by simp only [spec_NewDevice.l0]; rw [if_pos (by omega), hz]; simp only [Option.bind_some]; rw [if_pos (by omega), inc i (by omega)]) e, h⟩
theorem both_NewDevice (n : Int) : ∃ (xs : List ByteArray) (ok : Bool), xs.length ≤ 32 ∧ (∀ x ∈ xs, x = zt) ∧ (ok = true → 1 ≤ xs.length) ∧ Ev (fun k => spec_NewDevice.f k n) (xs, [], ok) ∧ impl_NewDevice.f n = some (xs, [], ok) := by
  by_cases h : n ≥ 1 ∧ n ≤ 32
  · obtain ⟨m, rfl⟩ : ∃ m : Nat, n = (m : Int) := ⟨n.toNat, by omega⟩
    have hz : spec_l1Zeros.f 8 = some zt := by unfold spec_l1Zeros.f; rw [if_pos (by omega), if_pos (by decide)]; rfl
    obtain ⟨xs, e, hl, hx⟩ := new_l m (by omega) _ hz m 0 [] (by omega) rfl (by simp)
    obtain rfl : xs = List.replicate m zt := List.eq_replicate_iff.mpr ⟨hl, hx⟩
    refine ⟨List.replicate m zt, true, by omega, hx, fun _ => by omega, ?_, ?_⟩
    · unfold spec_NewDevice.f
      exact ev_to_some (l1In_tells _ _ _) (evp (decide_eq_true h) e)
    · unfold impl_NewDevice.f
      rw [within_tells, decide_eq_true h]
      simp only [Option.bind_some]
      rw [if_pos trivial, rep_zt]
      simp only [Option.bind_some]
      unfold slices_Repeat_string_string.f
      rw [if_pos ⟨rfl, h⟩]
      rfl
  · refine ⟨[], false, by simp, by simp, by simp, ?_, ?_⟩
    · unfold spec_NewDevice.f
      exact ev_to_some (l1In_tells _ _ _) (evn (by rw [decide_eq_false h]; decide) (Ev.now _))
    · unfold impl_NewDevice.f
      rw [within_tells, decide_eq_false h]
      rfl

theorem mark_text_l (d : Nat) : ∀ (n : Nat) (out : ByteArray), n < 2 ^ d → d ≤ 60 → out.size + d ≤ 1000 → ∃ r, Ev (fun k => laws_markText.l0 k (n : Int) out) r := by
  induction d with
  | zero =>
    intro n out hn _ ho
    have : n = 0 := by simpa using hn
    subst this
    exact ⟨_, Ev.step (fun k => by simp only [laws_markText.l0]; rw [if_neg (by omega), if_pos (by omega)]) (Ev.now _)⟩
  | succ d ih =>
    intro n out hn hd ho
    by_cases h0 : n = 0
    · subst h0
      exact ⟨_, Ev.step (fun k => by simp only [laws_markText.l0]; rw [if_neg (by omega), if_pos (by omega)]) (Ev.now _)⟩
    · have hp : (2 : Nat) ^ (d + 1) ≤ 2 ^ 60 := Nat.pow_le_pow_right (by omega) hd
      have hz : ∀ x : Int, (strOfNums [x]).size = 1 := fun x => by rw [strOfNums_size]; rfl
      have hw : wrap64 (Int.tdiv (n : Int) 10) = ((n / 10 : Nat) : Int) := by
        rw [Int.tdiv_eq_ediv_of_nonneg (by omega)]
        have : (n : Int) / 10 = ((n / 10 : Nat) : Int) := by omega
        rw [this]; unfold wrap64; omega
      obtain ⟨r, hr⟩ := ih (n / 10) (strOfNums [(wrap64 (48 + Int.tmod (n : Int) 10)) % 256] ++ out) (by rw [Nat.pow_succ] at hn; omega) (by omega) (by rw [ByteArray.size_append, hz]; omega)
      refine ⟨r, Ev.step (fun k => ?_) hr⟩
      simp only [laws_markText.l0, Option.bind_some]
      rw [if_pos (by omega), if_pos (by rw [hz]; omega), hw]
theorem mark_text (n : Nat) (hn : n < 2 ^ 48) : ∃ r, Ev (fun k => laws_markText.f k (n : Int)) r := by
  by_cases h0 : n = 0
  · subst h0; exact ⟨_, evp (by omega) (Ev.now _)⟩
  · obtain ⟨r, hr⟩ := mark_text_l 48 n (⟨#[]⟩ : ByteArray) hn (by omega) (by show 0 + 48 ≤ 1000; omega)
    exact ⟨r, evn (by omega) hr⟩
theorem mark_texts : ∃ T : Nat → ByteArray, ∀ n : Nat, n < 2 ^ 48 → Ev (fun k => laws_markText.f k (n : Int)) (T n) := by
  refine ⟨fun n => if h : n < 2 ^ 48 then Classical.choose (mark_text n h) else ByteArray.empty, fun n hn => ?_⟩
  simp only [dif_pos hn]
  exact Classical.choose_spec (mark_text n hn)

theorem mark_strs_l (T : Nat → ByteArray) (hT : ∀ n : Nat, n < 2 ^ 48 → Ev (fun k => laws_markText.f k (n : Int)) (T n)) (m : Nat) (hm : m < 2 ^ 44) (d : Nat) : ∀ (xs : List ByteArray) (i : Nat), i + d = xs.length → xs.length < 2 ^ 40 → (∀ j, j < i → xs.getD j ByteArray.empty = T (m + j)) →
    ∃ ys, Ev (fun k => laws_markStringS.l0 k xs ((m + i : Nat) : Int) (i : Int)) (((m + xs.length : Nat) : Int), ys) ∧ ys.length = xs.length ∧ ∀ j, j < xs.length → ys.getD j ByteArray.empty = T (m + j) := by
  induction d with
  | zero =>
    intro xs i hi _ hxs
    refine ⟨xs, Ev.step (fun k => by simp only [laws_markStringS.l0]; rw [if_neg (by omega)]) (by rw [show i = xs.length by omega]; exact Ev.now _), rfl, fun j hj => hxs j (by omega)⟩
  | succ d ih =>
    intro xs i hi hl hxs
    obtain ⟨ys, hr, hn, hy⟩ := ih (xs.set i (T (m + i))) (i + 1) (by rw [List.length_set]; omega) (by rw [List.length_set]; omega) (fun j hj => by
      rw [gset _ _ _ _ _ (by omega)]
      split
      · rename_i e; subst e; rfl
      · exact hxs j (by omega))
    rw [List.length_set] at hr hn hy
    have hw : wrap64 (((m + i : Nat) : Int) + 1) = ((m + (i + 1) : Nat) : Int) := by unfold wrap64; omega
    refine ⟨ys, Ev.step (fun k => by simp only [laws_markStringS.l0]; rw [if_pos (by omega), hw, inc i (by omega)]) (Ev.bind (hT (m + i) (by omega)) ?_), hn, hy⟩
    rw [Int.toNat_natCast]
    exact evp (by omega) hr
theorem held_strs_l (T : Nat → ByteArray) (hT : ∀ n : Nat, n < 2 ^ 48 → Ev (fun k => laws_markText.f k (n : Int)) (T n)) (m : Nat) (hm : m < 2 ^ 44) (d : Nat) : ∀ (ys : List ByteArray) (i : Nat), i + d = ys.length → ys.length < 2 ^ 40 → (∀ j, j < ys.length → ys.getD j ByteArray.empty = T (m + j)) →
    Ev (fun k => laws_heldStringS.l0 k ys ((m + i : Nat) : Int) (i : Int)) ((m + ys.length : Nat) : Int) := by
  induction d with
  | zero =>
    intro ys i hi _ _
    exact Ev.step (fun k => by simp only [laws_heldStringS.l0]; rw [if_neg (by omega)]) (by rw [show i = ys.length by omega]; exact Ev.now _)
  | succ d ih =>
    intro ys i hi hl hy
    have hw : wrap64 (((m + i : Nat) : Int) + 1) = ((m + (i + 1) : Nat) : Int) := by unfold wrap64; omega
    refine Ev.step (fun k => by simp only [laws_heldStringS.l0]; rw [if_pos (by omega), if_pos (by omega), rdOf_nat, hw, inc i (by omega)]) (Ev.bind (hT (m + i) (by omega)) ?_)
    exact evp (by rw [hy i (by omega)]) (ih ys (i + 1) (by omega) hl hy)
theorem marked_strm (T : Nat → ByteArray) (hT : ∀ n : Nat, n < 2 ^ 48 → Ev (fun k => laws_markText.f k (n : Int)) (T n)) (m : Nat) (hm : m < 2 ^ 44) (xs : List ByteArray) (hl : xs.length < 2 ^ 40) :
    ∃ ys, Ev (fun k => laws_markStringS.f k xs (m : Int)) (((m + xs.length : Nat) : Int), ys) ∧ ys.length = xs.length ∧ Ev (fun k => laws_heldStringS.f k ys (m : Int)) ((m + xs.length : Nat) : Int) := by
  obtain ⟨ys, h1, h2, h3⟩ := mark_strs_l T hT m hm xs.length xs 0 (by omega) hl (fun j hj => by omega)
  have h4 := held_strs_l T hT m hm ys.length ys 0 (by omega) (by omega) (fun j hj => h3 j (by omega))
  rw [Nat.add_zero] at h1 h4
  rw [h2] at h4
  exact ⟨ys, h1, h2, h4⟩

theorem mark_writes_l (T : Nat → ByteArray) (hT : ∀ n : Nat, n < 2 ^ 48 → Ev (fun k => laws_markText.f k (n : Int)) (T n)) (m : Nat) (hm : m < 2 ^ 44) (d : Nat) : ∀ (xs : List S42) (i : Nat), i + d = xs.length → xs.length < 2 ^ 40 → (∀ j, j < i → xs.getD j z42 = ⟨((m + 2 * j : Nat) : Int), T (m + 2 * j + 1)⟩) →
    ∃ ys, Ev (fun k => laws_markWriteS.l0 k xs ((m + 2 * i : Nat) : Int) (i : Int)) (((m + 2 * xs.length : Nat) : Int), ys) ∧ ys.length = xs.length ∧ ∀ j, j < xs.length → ys.getD j z42 = ⟨((m + 2 * j : Nat) : Int), T (m + 2 * j + 1)⟩ := by
  induction d with
  | zero =>
    intro xs i hi _ hxs
    refine ⟨xs, Ev.step (fun k => by simp only [laws_markWriteS.l0]; rw [if_neg (by omega)]) (by rw [show i = xs.length by omega]; exact Ev.now _), rfl, fun j hj => hxs j (by omega)⟩
  | succ d ih =>
    intro xs i hi hl hxs
    obtain ⟨ys, hr, hn, hy⟩ := ih (xs.set i ⟨((m + 2 * i : Nat) : Int), T (m + 2 * i + 1)⟩) (i + 1) (by rw [List.length_set]; omega) (by rw [List.length_set]; omega) (fun j hj => by
      rw [gset _ _ _ _ _ (by omega)]
      split
      · rename_i e; subst e; rfl
      · exact hxs j (by omega))
    rw [List.length_set] at hr hn hy
    have hw : wrap64 (((m + 2 * i : Nat) : Int) + 1) = ((m + 2 * i + 1 : Nat) : Int) := by unfold wrap64; omega
    have hw2 : wrap64 (((m + 2 * i + 1 : Nat) : Int) + 1) = ((m + 2 * (i + 1) : Nat) : Int) := by unfold wrap64; omega
    have st : ∀ k, laws_markWriteS.l0 (k + 1) xs ((m + 2 * i : Nat) : Int) (i : Int) = (laws_markText.f k ((m + 2 * i + 1 : Nat) : Int)).bind fun t => laws_markWriteS.l0 k (xs.set i ⟨((m + 2 * i : Nat) : Int), t⟩) ((m + 2 * (i + 1) : Nat) : Int) ((i + 1 : Nat) : Int) := fun k => by
      rw [laws_markWriteS.l0]
      rw [if_pos (by omega), if_pos (by omega), Option.bind_some, hw, hw2, inc i (by omega), Int.toNat_natCast]
      simp only [rd_write, List.set_set]
      rw [gset _ _ _ _ _ (by omega), if_pos rfl]
    exact ⟨ys, Ev.step st (Ev.bind (hT (m + 2 * i + 1) (by omega)) hr), hn, hy⟩
theorem held_writes_l (T : Nat → ByteArray) (hT : ∀ n : Nat, n < 2 ^ 48 → Ev (fun k => laws_markText.f k (n : Int)) (T n)) (m : Nat) (hm : m < 2 ^ 44) (d : Nat) : ∀ (ys : List S42) (i : Nat), i + d = ys.length → ys.length < 2 ^ 40 → (∀ j, j < ys.length → ys.getD j z42 = ⟨((m + 2 * j : Nat) : Int), T (m + 2 * j + 1)⟩) →
    Ev (fun k => laws_heldWriteS.l0 k ys ((m + 2 * i : Nat) : Int) (i : Int)) ((m + 2 * ys.length : Nat) : Int) := by
  induction d with
  | zero =>
    intro ys i hi _ _
    exact Ev.step (fun k => by simp only [laws_heldWriteS.l0]; rw [if_neg (by omega)]) (by rw [show i = ys.length by omega]; exact Ev.now _)
  | succ d ih =>
    intro ys i hi hl hy
    have hw : wrap64 (((m + 2 * i : Nat) : Int) + 1) = ((m + 2 * i + 1 : Nat) : Int) := by unfold wrap64; omega
    have hw2 : wrap64 (((m + 2 * i + 1 : Nat) : Int) + 1) = ((m + 2 * (i + 1) : Nat) : Int) := by unfold wrap64; omega
    refine Ev.step (fun k => by
      rw [laws_heldWriteS.l0]
      rw [if_pos (by omega), if_pos (by omega), rd_write, hy i (by omega)]
      rw [if_pos rfl, hw, hw2, inc i (by omega)]) (Ev.bind (hT (m + 2 * i + 1) (by omega)) ?_)
    exact evp rfl (ih ys (i + 1) (by omega) hl hy)
theorem marked_writes (T : Nat → ByteArray) (hT : ∀ n : Nat, n < 2 ^ 48 → Ev (fun k => laws_markText.f k (n : Int)) (T n)) (m : Nat) (hm : m < 2 ^ 44) (xs : List S42) (hl : xs.length < 2 ^ 40) :
    ∃ ys, Ev (fun k => laws_markWriteS.f k xs (m : Int)) (((m + 2 * xs.length : Nat) : Int), ys) ∧ ys.length = xs.length ∧ Ev (fun k => laws_heldWriteS.f k ys (m : Int)) ((m + 2 * xs.length : Nat) : Int) := by
  obtain ⟨ys, h1, h2, h3⟩ := mark_writes_l T hT m hm xs.length xs 0 (by omega) hl (fun j hj => by omega)
  have h4 := held_writes_l T hT m hm ys.length ys 0 (by omega) (by omega) (fun j hj => h3 j (by omega))
  rw [Nat.mul_zero, Nat.add_zero] at h1 h4
  rw [h2] at h4
  exact ⟨ys, h1, h2, h4⟩
theorem marked_device (xs : List ByteArray) (ws : List S42) (hx : xs.length < 2 ^ 40) (hw : ws.length < 2 ^ 40) :
    ∃ ys vs, Ev (fun k => laws_markDevice.f k xs ws 1) (((1 + xs.length + 2 * ws.length : Nat) : Int), ys, vs) ∧ Ev (fun k => laws_heldDevice.f k ys vs 1) ((1 + xs.length + 2 * ws.length : Nat) : Int) := by
  obtain ⟨T, hT⟩ := mark_texts
  obtain ⟨ys, a1, a2, a3⟩ := marked_strm T hT 1 (by omega) xs hx
  obtain ⟨vs, b1, b2, b3⟩ := marked_writes T hT (1 + xs.length) (by omega) ws hw
  exact ⟨ys, vs, Ev.bind a1 (Ev.bind b1 (Ev.now _)), Ev.bind a3 (evn (by show ¬ ((1 + xs.length : Nat) : Int) < 0; omega) (Ev.bind b3 (evn (by show ¬ ((1 + xs.length + 2 * ws.length : Nat) : Int) < 0; omega) (Ev.now _))))⟩

theorem FnExactNewDevice : laws_FnExactNewDevice.Pure := by
  intro a0 ha
  obtain ⟨rx, ok, hrx, _, _, e1, e2⟩ := both_NewDevice a0
  have hrx' : rx.length < 2 ^ 40 := by omega
  have Q := eq_device rx [] hrx' (by simp)
  obtain ⟨ys, vs, m1, m2⟩ := marked_device rx [] hrx' (by simp)
  unfold laws_FnExactNewDevice.f
  refine Ev.rounds ?_
  refine Ev.bind e1 (ev_to_some e2 (Ev.bind Q (evp rfl ?_)))
  rw [bne_self_eq_false]
  refine Ev.step (fun k => by simp only [laws_FnExactNewDevice.j0]; rw [if_neg (by decide)]) (Ev.bind m1 (Ev.bind m2 (evn (nn _) (evp rfl (ev_to_some e2 (Ev.bind Q (evp rfl ?_)))))))
  rw [bne_self_eq_false]
  exact Ev.step (fun k => by simp only [laws_FnExactNewDevice.j1]; rw [if_neg (by decide)]) (Ev.bind m2 (evn (nn _) (evp rfl (Ev.now _))))

end Go.Proofs.Ytlhgkbleciokmaa.Pure
