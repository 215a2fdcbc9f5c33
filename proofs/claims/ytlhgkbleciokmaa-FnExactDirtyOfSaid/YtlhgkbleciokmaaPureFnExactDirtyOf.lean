/- The program's DirtyOf answers as the reference's at all devices, and shares no memory; no condition. -/
import Derived.Test.YtlhgkbleciokmaaQFnExactDirtyOfx6
import Derived.OpenShut
set_option linter.unusedVariables false
set_option linter.unusedSimpArgs false
namespace Go.Proofs.Ytlhgkbleciokmaa.Pure
open Go.RowKit Go.Proofs.Ytlhgkbleciokmaa.PFnExactDirtyOf Go.Proofs.YtlhgkbleciokmaaW.PrintWords Go.Proofs.YtlhgkbleciokmaaW.PrintLast Go.Proofs.YtlhgkbleciokmaaW.PrintMore 

theorem wr64 (n : Nat) (h : n < 2 ^ 62) : wrap64 (n : Int) = (n : Int) := by unfold wrap64; omega
theorem wri (n : Int) (h : 0 ≤ n) (h1 : n < 2 ^ 62) : wrap64 n = n := by unfold wrap64; omega
theorem byte_of {x : Int} (h : (Lit.int .u8 x).wf = true) : ∃ n : Nat, n < 256 ∧ x = (n : Int) := by
  have := bounds_u8 h
  exact ⟨x.toNat, by omega, by omega⟩
theorem shr_nat (b j q : Nat) (hj : j ≤ 8) (hq : q = b / 2 ^ j) : shr .u8 (b : Int) (j : Int) = (q : Int) := by
  unfold shr
  rw [Int.toNat_natCast, Nat.min_eq_left (show j ≤ IntKind.bits .u8 from hj), hq]
  simp
theorem dbl (x : Nat) (hx : x < 256) : wrap64 ((x : Int) * 2) = ((2 * x : Nat) : Int) := by unfold wrap64; omega
theorem inc (j : Nat) (hj : j < 2 ^ 62) : wrap64 ((j : Int) + 1) = ((j + 1 : Nat) : Int) := by unfold wrap64; omega
theorem nn (n : Nat) : ¬ ((n : Int) < 0) := by omega

theorem within_tells (a b c : Int) : impl_within.f a b c = some (decide (a ≥ b ∧ a ≤ c)) := by
  unfold impl_within.f
  split
  · rename_i h; simp [h]
  · rename_i h; simp [h]
theorem l1In_tells (a b c : Int) : spec_l1In.f a b c = some (decide (a ≥ b ∧ a ≤ c)) := by
  unfold spec_l1In.f
  split
  · rename_i h; simp [h]
  · rename_i h; simp [h]

theorem ev_of {α : Type} {g : Nat → Option α} {r : α} (K : Nat) (h : ∀ k, K < k → g k = some r) : Ev g r := ⟨K + 1, fun k hk => h k (by omega)⟩
theorem evp {α : Type} {c : Prop} [Decidable c] {f g : Nat → Option α} {r : α} (h : c) (k : Ev f r) : Ev (fun n => if c then f n else g n) r := Ev.congr (fun _ => if_pos h) k
theorem evn {α : Type} {c : Prop} [Decidable c] {f g : Nat → Option α} {r : α} (h : ¬ c) (k : Ev g r) : Ev (fun n => if c then f n else g n) r := Ev.congr (fun _ => if_neg h) k
theorem ev_some {α β : Type} {a : α} {f : Nat → α → Option β} {r : β} (h : Ev (fun n => f n a) r) : Ev (fun n => (some a).bind (f n)) r := h
theorem ev_to_some {α β : Type} {o : Option α} {a : α} {f : Nat → α → Option β} {r : β} (ho : o = some a) (h : Ev (fun n => f n a) r) : Ev (fun n => o.bind (f n)) r := by subst ho; exact h
theorem maxLen_lt : maxLen < 2 ^ 63 := by decide

theorem gset {α : Type} (z : α) (xs : List α) (i j : Nat) (v : α) (hi : i < xs.length) : (xs.set i v).getD j z = if j = i then v else xs.getD j z := by
  simp only [List.getD_eq_getElem?_getD, List.getElem?_set]
  by_cases h : i = j
  · subst h; simp [hi]
  · rw [if_neg h, if_neg (fun e => h e.symm)]
theorem gext {α : Type} (z : α) {l m : List α} (hl : l.length = m.length) (h : ∀ j, j < l.length → l.getD j z = m.getD j z) : l = m := by
  apply List.ext_getElem hl
  intro j h1 h2
  have := h j h1
  simpa [List.getD_eq_getElem?_getD, h1, h2] using this
theorem rdOf_nat {α : Type} (z : α) (xs : List α) (i : Nat) : rdOf z xs (i : Int) = xs.getD i z := by unfold rdOf; rw [Int.toNat_natCast]
theorem gmem {α : Type} (z : α) {xs : List α} {i : Nat} (h : i < xs.length) : xs.getD i z ∈ xs := by
  rw [List.getD_eq_getElem?_getD]; simp [h]
/-- what a count of sizes leaves -/
def Left (B r : Int) : Prop := r < 0 ∨ 0 ≤ r ∧ r ≤ B
theorem sz_strs_l (xs : List ByteArray) (hl : xs.length < 2 ^ 48) (hs : ∀ x ∈ xs, x.size ≤ maxLen) (B : Int) (hB : B < 2 ^ 40) (d : Nat) : ∀ (i : Nat) (m : Int), i + d = xs.length → 0 ≤ m → m ≤ B →
    ∃ r, Ev (fun k => laws_szStringS.l0 k xs m (i : Int)) r ∧ Left B r := by
  induction d with
  | zero =>
    intro i m hi h0 h1
    exact ⟨m, Ev.step (fun k => by simp only [laws_szStringS.l0]; rw [if_neg (by omega)]) (Ev.now _), Or.inr ⟨h0, h1⟩⟩
  | succ d ih =>
    intro i m hi h0 h1
    have hsz := hs _ (gmem ByteArray.empty (show i < xs.length by omega))
    have hml := maxLen_lt
    have hw : wrap64 (m - (((xs.getD i ByteArray.empty).size : Nat) : Int)) = m - (((xs.getD i ByteArray.empty).size : Nat) : Int) := by unfold wrap64; omega
    by_cases hneg : m - (((xs.getD i ByteArray.empty).size : Nat) : Int) < 0
    · exact ⟨-1, Ev.step (fun k => by simp only [laws_szStringS.l0]; rw [if_pos (by omega), if_pos (by omega), rdOf_nat, hw, if_pos hneg]) (Ev.now _), Or.inl (by omega)⟩
    · obtain ⟨r, h2, h3⟩ := ih (i + 1) (m - (((xs.getD i ByteArray.empty).size : Nat) : Int)) (by omega) (by omega) (by omega)
      exact ⟨r, Ev.step (fun k => by simp only [laws_szStringS.l0]; rw [if_pos (by omega), if_pos (by omega), rdOf_nat, hw, if_neg hneg, inc i (by omega)]) h2, h3⟩
theorem sz_strs (xs : List ByteArray) (hl : xs.length ≤ maxLen) (hs : ∀ x ∈ xs, x.size ≤ maxLen) (B : Int) (h0 : 0 ≤ B) (hB : B < 2 ^ 40) :
    ∃ r, Ev (fun k => laws_szStringS.f k xs B) r ∧ (r < 0 ∨ 0 ≤ r ∧ r ≤ B ∧ (xs.length : Int) ≤ B) := by
  have hml := maxLen_lt
  unfold laws_szStringS.f
  rw [show wrap64 (B - (xs.length : Int)) = B - (xs.length : Int) by unfold wrap64; omega]
  by_cases hneg : B - (xs.length : Int) < 0
  · exact ⟨-1, evp hneg (Ev.now _), Or.inl (by omega)⟩
  · obtain ⟨r, h1, h2⟩ := sz_strs_l xs (by omega) hs (B - (xs.length : Int)) (by omega) xs.length 0 (B - (xs.length : Int)) (by omega) (by omega) (by omega)
    refine ⟨r, evn hneg h1, ?_⟩
    unfold Left at h2; omega
theorem to_strs_l (xs : List ByteArray) (hl : xs.length < 2 ^ 40) (d : Nat) : ∀ (ys : List ByteArray) (i : Nat), i + d = xs.length → ys.length = xs.length → (∀ j, j < i → ys.getD j ByteArray.empty = xs.getD j ByteArray.empty) →
    Ev (fun k => laws_toStringS.l0 k xs ys (i : Int)) xs := by
  induction d with
  | zero =>
    intro ys i hi hy he
    refine Ev.step (fun k => by simp only [laws_toStringS.l0]; rw [if_neg (by omega)]) ?_
    rw [gext ByteArray.empty hy (fun j hj => he j (by omega))]
    exact Ev.now _
  | succ d ih =>
    intro ys i hi hy he
    refine Ev.step (fun k => by
      simp only [laws_toStringS.l0]
      rw [if_pos (by omega), if_pos (by omega), if_pos (by omega), rdOf_nat, Int.toNat_natCast, inc i (by omega)]) ?_
    refine ih _ (i + 1) (by omega) (by rw [List.length_set]; exact hy) (fun j hj => ?_)
    rw [gset _ _ _ _ _ (by omega)]
    split
    · rename_i e; subst e; rfl
    · exact he j (by omega)
theorem to_strs (xs : List ByteArray) (hl : xs.length < 2 ^ 40) : Ev (fun k => laws_toStringS.f k xs) xs := by
  unfold laws_toStringS.f
  exact evp (by omega) (evp (by omega) (to_strs_l xs hl xs.length _ 0 (by omega) (by simp) (fun j hj => by omega)))
theorem eq_strs_l (xs : List ByteArray) (hl : xs.length < 2 ^ 40) (d : Nat) : ∀ (i : Nat), i + d = xs.length → Ev (fun k => laws_eqStringS.l0 k xs xs (i : Int)) true := by
  induction d with
  | zero => intro i hi; exact Ev.step (fun k => by simp only [laws_eqStringS.l0]; rw [if_neg (by omega)]) (Ev.now _)
  | succ d ih =>
    intro i hi
    exact Ev.step (fun k => by
      simp only [laws_eqStringS.l0]
      rw [if_pos (by omega), if_pos (by omega), if_pos (by omega), if_pos True.intro, inc i (by omega)]) (ih (i + 1) (by omega))
theorem eq_strs (xs : List ByteArray) (hl : xs.length < 2 ^ 40) : Ev (fun k => laws_eqStringS.f k xs xs) true := by
  unfold laws_eqStringS.f
  exact evp rfl (eq_strs_l xs hl xs.length 0 (by omega))

def convWrite (x : S38) : S42 := ⟨x.f0, x.f1⟩
theorem rd_write (xs : List S42) (i : Nat) : rd_T42 xs (i : Int) = xs.getD i z42 := by unfold rd_T42; rw [Int.toNat_natCast]
theorem rd0_write (xs : List S38) (i : Nat) : rd_T38 xs (i : Int) = xs.getD i z38 := by unfold rd_T38; rw [Int.toNat_natCast]
theorem to_writes_l (xs : List S38) (hl : xs.length < 2 ^ 40) (d : Nat) : ∀ (ys : List S42) (i : Nat), i + d = xs.length → ys.length = xs.length → (∀ j, j < i → ys.getD j z42 = (xs.map convWrite).getD j z42) →
    Ev (fun k => laws_toWriteS.l0 k xs ys (i : Int)) (xs.map convWrite) := by
  induction d with
  | zero =>
    intro ys i hi hy he
    refine Ev.step (fun k => by simp only [laws_toWriteS.l0]; rw [if_neg (by omega)]) ?_
    rw [gext z42 (l := ys) (m := xs.map convWrite) (by rw [List.length_map]; exact hy) (fun j hj => he j (by omega))]
    exact Ev.now _
  | succ d ih =>
    intro ys i hi hy he
    refine Ev.step (fun k => by
      simp only [laws_toWriteS.l0, laws_toWrite.f, Option.bind_some]
      rw [if_pos (by omega), if_pos (by omega), if_pos (by omega), rd0_write, Int.toNat_natCast, inc i (by omega)]) ?_
    refine ih _ (i + 1) (by omega) (by rw [List.length_set]; exact hy) (fun j hj => ?_)
    rw [gset _ _ _ _ _ (by omega)]
    split
    · rename_i e; subst e
      simp only [List.getD_eq_getElem?_getD, List.getElem?_map, List.getElem?_eq_getElem (show j < xs.length by omega), Option.map_some, Option.getD_some, convWrite]
    · exact he j (by omega)
theorem to_writes (xs : List S38) (hl : xs.length < 2 ^ 40) : Ev (fun k => laws_toWriteS.f k xs) (xs.map convWrite) := by
  unfold laws_toWriteS.f
  exact evp (by omega) (evp (by omega) (to_writes_l xs hl xs.length _ 0 (by omega) (by simp) (fun j hj => by omega)))
theorem eq_writes_l (xs : List S42) (hl : xs.length < 2 ^ 40) (d : Nat) : ∀ (i : Nat), i + d = xs.length → Ev (fun k => laws_eqWriteS.l0 k xs xs (i : Int)) true := by
  induction d with
  | zero => intro i hi; exact Ev.step (fun k => by simp only [laws_eqWriteS.l0]; rw [if_neg (by omega)]) (Ev.now _)
  | succ d ih =>
    intro i hi
    exact Ev.step (fun k => by
      simp only [laws_eqWriteS.l0, laws_eqWrite.f, if_true, Option.bind_some]
      rw [if_pos (by omega), if_pos (by omega), if_pos (by omega), inc i (by omega)]) (ih (i + 1) (by omega))
theorem eq_writes (xs : List S42) (hl : xs.length < 2 ^ 40) : Ev (fun k => laws_eqWriteS.f k xs xs) true := by
  unfold laws_eqWriteS.f
  exact evp rfl (eq_writes_l xs hl xs.length 0 (by omega))

theorem sz_writes_l (xs : List S38) (hl : xs.length < 2 ^ 48) (hs : ∀ x ∈ xs, okS38 x) (B : Int) (hB : B < 2 ^ 40) (d : Nat) : ∀ (i : Nat) (m : Int), i + d = xs.length → 0 ≤ m → m ≤ B →
    ∃ r, Ev (fun k => laws_szWriteS.l0 k xs m (i : Int)) r ∧ Left B r := by
  induction d with
  | zero =>
    intro i m hi h0 h1
    exact ⟨m, Ev.step (fun k => by simp only [laws_szWriteS.l0]; rw [if_neg (by omega)]) (Ev.now _), Or.inr ⟨h0, h1⟩⟩
  | succ d ih =>
    intro i m hi h0 h1
    have hsz := (hs _ (gmem z38 (show i < xs.length by omega))).2
    have hml := maxLen_lt
    have hw : wrap64 (m - (((xs.getD i z38).f1.size : Nat) : Int)) = m - (((xs.getD i z38).f1.size : Nat) : Int) := by unfold wrap64; omega
    by_cases hneg : m - (((xs.getD i z38).f1.size : Nat) : Int) < 0
    · exact ⟨-1, Ev.step (fun k => by simp only [laws_szWriteS.l0, laws_szWrite.f]; rw [if_pos (by omega), if_pos (by omega), rd0_write, hw, if_pos hneg]; simp only [Option.bind_some]; rw [if_pos (by omega)]) (Ev.now _), Or.inl (by omega)⟩
    · obtain ⟨r, h2, h3⟩ := ih (i + 1) (m - (((xs.getD i z38).f1.size : Nat) : Int)) (by omega) (by omega) (by omega)
      exact ⟨r, Ev.step (fun k => by simp only [laws_szWriteS.l0, laws_szWrite.f]; rw [if_pos (by omega), if_pos (by omega), rd0_write, hw, if_neg hneg]; simp only [Option.bind_some]; rw [if_neg hneg, inc i (by omega)]) h2, h3⟩
theorem sz_writes (xs : List S38) (hl : xs.length ≤ maxLen) (hs : ∀ x ∈ xs, okS38 x) (B : Int) (h0 : 0 ≤ B) (hB : B < 2 ^ 40) :
    ∃ r, Ev (fun k => laws_szWriteS.f k xs B) r ∧ (r < 0 ∨ 0 ≤ r ∧ r ≤ B ∧ (xs.length : Int) ≤ B) := by
  have hml := maxLen_lt
  unfold laws_szWriteS.f
  rw [show wrap64 (B - (xs.length : Int)) = B - (xs.length : Int) by unfold wrap64; omega]
  by_cases hneg : B - (xs.length : Int) < 0
  · exact ⟨-1, evp hneg (Ev.now _), Or.inl (by omega)⟩
  · obtain ⟨r, h1, h2⟩ := sz_writes_l xs (by omega) hs (B - (xs.length : Int)) (by omega) xs.length 0 (B - (xs.length : Int)) (by omega) (by omega) (by omega)
    refine ⟨r, evn hneg h1, ?_⟩
    unfold Left at h2; omega

theorem sz_device (xs : List ByteArray) (ws : List S38) (hl : xs.length ≤ maxLen ∧ ∀ x ∈ xs, x.size ≤ maxLen) (hw : ws.length ≤ maxLen ∧ ∀ x ∈ ws, okS38 x) (B : Int) (h0 : 0 ≤ B) (hB : B < 2 ^ 40) :
    ∃ r, Ev (fun k => laws_szDevice.f k xs ws B) r ∧ (r < 0 ∨ xs.length < 2 ^ 40 ∧ ws.length < 2 ^ 40) := by
  obtain ⟨r, h1, h2⟩ := sz_strs xs hl.1 hl.2 B h0 hB
  unfold laws_szDevice.f
  by_cases hr : r < 0
  · exact ⟨-1, Ev.bind h1 (evp hr (Ev.now _)), Or.inl (by omega)⟩
  · obtain ⟨r2, h3, h4⟩ := sz_writes ws hw.1 hw.2 r (by omega) (by omega)
    by_cases hr2 : r2 < 0
    · exact ⟨-1, Ev.bind h1 (evn hr (Ev.bind h3 (evp hr2 (Ev.now _)))), Or.inl (by omega)⟩
    · exact ⟨r2, Ev.bind h1 (evn hr (Ev.bind h3 (evn hr2 (Ev.now _)))), Or.inr (by omega)⟩
theorem to_device (xs : List ByteArray) (ws : List S38) (hl : xs.length < 2 ^ 40) (hw : ws.length < 2 ^ 40) : Ev (fun k => laws_toDevice.f k xs ws) (xs, ws.map convWrite) :=
  Ev.bind (to_strs xs hl) (Ev.bind (to_writes ws hw) (Ev.now _))
theorem eq_device (xs : List ByteArray) (ws : List S42) (hl : xs.length < 2 ^ 40) (hw : ws.length < 2 ^ 40) : Ev (fun k => laws_eqDevice.f k xs ws xs ws) true :=
  Ev.bind (eq_strs xs hl) (evp rfl (Ev.bind (eq_writes ws hw) (evp rfl (Ev.now _))))
theorem spec_good1 (xs : List ByteArray) (ws : List S42) (hl : xs.length < 2 ^ 40) (hw : ws.length < 2 ^ 40) (d : Nat) : ∀ (i : Nat), i + d = ws.length →
    Ev (fun k => spec_GoodDevice.l1 k ws (ws.length : Int) (i : Int) xs ws) (!((ws.drop i).any (badWrite xs.length)) && (decide (1 ≤ xs.length ∧ xs.length ≤ 32) && decide (ws.length ≤ 60))) := by
  induction d with
  | zero =>
    intro i hi
    rw [List.drop_eq_nil_of_le (by omega)]
    refine Ev.step (fun k => by simp only [spec_GoodDevice.l1]; rw [if_neg (by omega), l1In_tells]) ?_
    refine ev_some ?_
    by_cases h : 1 ≤ xs.length ∧ xs.length ≤ 32
    · refine evp (decide_eq_true (by omega)) ?_
      rw [decide_eq_true h]
      simp only [List.any_nil, Bool.not_false, Bool.true_and]
      exact Ev.congr (fun _ => by congr 1; rw [decide_eq_decide]; omega) (Ev.now _)
    · refine evn (by rw [decide_eq_true_eq]; omega) ?_
      rw [decide_eq_false h]
      exact Ev.now _
  | succ d ih =>
    intro i hi
    have hlt : i < ws.length := by omega
    rw [List.drop_eq_getElem_cons hlt, List.any_cons]
    have hg : ws.getD i z42 = ws[i] := by rw [List.getD_eq_getElem?_getD, List.getElem?_eq_getElem hlt]; rfl
    have hw1 : wrap64 ((xs.length : Int) - 1) = (xs.length : Int) - 1 := by unfold wrap64; omega
    have hb : spec_l1Write.f (ws[i]).f0 (ws[i]).f1 (xs.length : Int) = some (!(badWrite xs.length ws[i])) := by
      unfold spec_l1Write.f badWrite
      rw [hw1, l1In_tells]
      simp only [Option.bind_some]
      generalize decide ((ws[i]).f0 ≥ 0 ∧ (ws[i]).f0 ≤ (xs.length : Int) - 1) = b
      cases b
      · rfl
      · simp [bne]
    have hst : ∀ k, spec_GoodDevice.l1 (k + 1) ws (ws.length : Int) (i : Int) xs ws = if (!(badWrite xs.length ws[i])) = true then spec_GoodDevice.l1 k ws (ws.length : Int) ((i + 1 : Nat) : Int) xs ws else some false := fun k => by
      simp only [spec_GoodDevice.l1]
      rw [if_pos (by omega), if_pos (by omega), if_pos (by omega), rd_write, hg, hb, Option.bind_some, inc i (by omega)]
    refine Ev.step hst ?_
    cases hbw : badWrite xs.length ws[i]
    · exact evp rfl (by simpa using ih (i + 1) (by omega))
    · exact evn (by decide) (Ev.now _)
theorem spec_good0 (xs : List ByteArray) (ws : List S42) (hl : xs.length < 2 ^ 40) (hw : ws.length < 2 ^ 40) (d : Nat) : ∀ (i : Nat), i + d = xs.length →
    Ev (fun k => spec_GoodDevice.l0 k xs (xs.length : Int) (i : Int) xs ws) (!((xs.drop i).any (fun s => (s.size : Int) != 8)) && (!(ws.any (badWrite xs.length)) && (decide (1 ≤ xs.length ∧ xs.length ≤ 32) && decide (ws.length ≤ 60)))) := by
  induction d with
  | zero =>
    intro i hi
    rw [List.drop_eq_nil_of_le (by omega)]
    exact Ev.step (fun k => by simp only [spec_GoodDevice.l0]; rw [if_neg (by omega)]) (by simpa using spec_good1 xs ws hl hw ws.length 0 (by omega))
  | succ d ih =>
    intro i hi
    have hlt : i < xs.length := by omega
    rw [List.drop_eq_getElem_cons hlt, List.any_cons]
    have hg : xs.getD i ByteArray.empty = xs[i] := by rw [List.getD_eq_getElem?_getD, List.getElem?_eq_getElem hlt]; rfl
    have hst : ∀ k, spec_GoodDevice.l0 (k + 1) xs (xs.length : Int) (i : Int) xs ws = if ((xs[i]).size : Int) = 8 then spec_GoodDevice.l0 k xs (xs.length : Int) ((i + 1 : Nat) : Int) xs ws else some false := fun k => by
      simp only [spec_GoodDevice.l0]
      rw [if_pos (by omega), if_pos (by omega), if_pos (by omega), rdOf_nat, hg, inc i (by omega)]
    refine Ev.step hst ?_
    by_cases hb : ((xs[i]).size : Int) = 8
    · refine evp hb ?_
      have := ih (i + 1) (by omega)
      rw [show (((xs[i]).size : Int) != 8) = false by rw [hb]; rfl, Bool.false_or]
      exact this
    · refine evn hb ?_
      rw [show (((xs[i]).size : Int) != 8) = true by simpa using hb]
      exact Ev.now _
theorem spec_goodD (xs : List ByteArray) (ws : List S42) (hl : xs.length < 2 ^ 40) (hw : ws.length < 2 ^ 40) : Ev (fun k => spec_GoodDevice.f k xs ws) (goodD xs ws) := by
  have h := spec_good0 xs ws hl hw xs.length 0 (by omega)
  have e : goodD xs ws = (!((xs.drop 0).any (fun s => (s.size : Int) != 8)) && (!(ws.any (badWrite xs.length)) && (decide (1 ≤ xs.length ∧ xs.length ≤ 32) && decide (ws.length ≤ 60)))) := by
    unfold goodD
    rw [List.drop_zero]
    generalize decide (1 ≤ xs.length ∧ xs.length ≤ 32) = a
    generalize decide (ws.length ≤ 60) = b
    generalize (xs.any fun s => (s.size : Int) != 8) = c
    generalize ws.any (badWrite xs.length) = d
    cases a <;> cases b <;> cases c <;> cases d <;> rfl
  rw [e]
  exact h
theorem impl_goodD (xs : List ByteArray) (ws : List S42) : impl_GoodDevice.f xs ws = some (goodD xs ws) := rfl
theorem conv_len (ws : List S38) (hw : ws.length < 2 ^ 40) : (ws.map convWrite).length < 2 ^ 40 := by rw [List.length_map]; exact hw

/-- a write on one of n sectors -/
def okW (n : Nat) (s : S42) : Prop := 0 ≤ s.f0 ∧ s.f0 < (n : Int)
theorem good_valid {xs : List ByteArray} {ws : List S42} (h : goodD xs ws = true) : (1 ≤ xs.length ∧ xs.length ≤ 32) ∧ ws.length ≤ 60 ∧ (∀ x ∈ xs, x.size = 8) ∧ ∀ s ∈ ws, okW xs.length s ∧ s.f1.size = 8 := by
  unfold goodD at h
  simp only [Bool.and_eq_true, decide_eq_true_eq, Bool.not_eq_true', List.any_eq_false] at h
  obtain ⟨h1, h2, h3, h4⟩ := h
  refine ⟨h1, h2, fun x hx => ?_, fun s hs => ?_⟩
  · have := h3 x hx
    simp only [bne_iff_ne, ne_eq, Decidable.not_not] at this
    omega
  · have := h4 s hs
    unfold badWrite at this
    simp only [Bool.or_eq_true, Bool.not_eq_true', decide_eq_false_iff_not, bne_iff_ne, ne_eq, not_or, Decidable.not_not] at this
    unfold okW
    omega
/-- the sectors behind those writes that are kept -/
def doneP (p : Int → Bool) : List S42 → Int → List ByteArray → List ByteArray
  | [], _, o => o
  | s :: l, i, o => doneP p l (i + 1) (if p i = true then o.set s.f0.toNat s.f1 else o)

theorem mark_text_l (d : Nat) : ∀ (n : Nat) (out : ByteArray), n < 2 ^ d → d ≤ 60 → out.size + d ≤ 1000 → ∃ r, Ev (fun k => laws_markText.l0 k (n : Int) out) r := by
  induction d with
  | zero =>
    intro n out hn _ ho
    have : n = 0 := by simpa using hn
    subst this
    exact ⟨_, Ev.step (fun k => by simp only [laws_markText.l0]; rw [if_neg (by omega), if_pos (by omega)]) (Ev.now _)⟩
  | succ d ih =>
    intro n out hn hd ho
    by_cases h0 : n = 0
    · subst h0
      exact ⟨_, Ev.step (fun k => by simp only [laws_markText.l0]; rw [if_neg (by omega), if_pos (by omega)]) (Ev.now _)⟩
    · have hp : (2 : Nat) ^ (d + 1) ≤ 2 ^ 60 := Nat.pow_le_pow_right (by omega) hd
      have hz : ∀ x : Int, (strOfNums [x]).size = 1 := fun x => by rw [strOfNums_size]; rfl
      have hw : wrap64 (Int.tdiv (n : Int) 10) = ((n / 10 : Nat) : Int) := by
        rw [Int.tdiv_eq_ediv_of_nonneg (by omega)]
        have : (n : Int) / 10 = ((n / 10 : Nat) : Int) := by omega
        rw [this]; unfold wrap64; omega
      obtain ⟨r, hr⟩ := ih (n / 10) (strOfNums [(wrap64 (48 + Int.tmod (n : Int) 10)) % 256] ++ out) (by rw [Nat.pow_succ] at hn; omega) (by omega) (by rw [ByteArray.size_append, hz]; omega)
      refine ⟨r, Ev.step (fun k => ?_) hr⟩
      simp only [laws_markText.l0, Option.bind_some]
      rw [if_pos (by omega), if_pos (by rw [hz]; omega), hw]
theorem mark_text (n : Nat) (hn : n < 2 ^ 48) : ∃ r, Ev (fun k => laws_markText.f k (n : Int)) r := by
  by_cases h0 : n = 0
  · subst h0; exact ⟨_, evp (by omega) (Ev.now _)⟩
  · obtain ⟨r, hr⟩ := mark_text_l 48 n (⟨#[]⟩ : ByteArray) hn (by omega) (by show 0 + 48 ≤ 1000; omega)
    exact ⟨r, evn (by omega) hr⟩
theorem mark_texts : ∃ T : Nat → ByteArray, ∀ n : Nat, n < 2 ^ 48 → Ev (fun k => laws_markText.f k (n : Int)) (T n) := by
  refine ⟨fun n => if h : n < 2 ^ 48 then Classical.choose (mark_text n h) else ByteArray.empty, fun n hn => ?_⟩
  simp only [dif_pos hn]
  exact Classical.choose_spec (mark_text n hn)

theorem mark_strs_l (T : Nat → ByteArray) (hT : ∀ n : Nat, n < 2 ^ 48 → Ev (fun k => laws_markText.f k (n : Int)) (T n)) (m : Nat) (hm : m < 2 ^ 44) (d : Nat) : ∀ (xs : List ByteArray) (i : Nat), i + d = xs.length → xs.length < 2 ^ 40 → (∀ j, j < i → xs.getD j ByteArray.empty = T (m + j)) →
    ∃ ys, Ev (fun k => laws_markStringS.l0 k xs ((m + i : Nat) : Int) (i : Int)) (((m + xs.length : Nat) : Int), ys) ∧ ys.length = xs.length ∧ ∀ j, j < xs.length → ys.getD j ByteArray.empty = T (m + j) := by
  induction d with
  | zero =>
    intro xs i hi _ hxs
    refine ⟨xs, Ev.step (fun k => by simp only [laws_markStringS.l0]; rw [if_neg (by omega)]) (by rw [show i = xs.length by omega]; exact Ev.now _), rfl, fun j hj => hxs j (by omega)⟩
  | succ d ih =>
    intro xs i hi hl hxs
    obtain ⟨ys, hr, hn, hy⟩ := ih (xs.set i (T (m + i))) (i + 1) (by rw [List.length_set]; omega) (by rw [List.length_set]; omega) (fun j hj => by
      rw [gset _ _ _ _ _ (by omega)]
      split
      · rename_i e; subst e; rfl
      · exact hxs j (by omega))
    rw [List.length_set] at hr hn hy
    have hw : wrap64 (((m + i : Nat) : Int) + 1) = ((m + (i + 1) : Nat) : Int) := by unfold wrap64; omega
    refine ⟨ys, Ev.step (fun k => by simp only [laws_markStringS.l0]; rw [if_pos (by omega), hw, inc i (by omega)]) (Ev.bind (hT (m + i) (by omega)) ?_), hn, hy⟩
    rw [Int.toNat_natCast]
    exact evp (by omega) hr
theorem mark_writes_l (T : Nat → ByteArray) (hT : ∀ n : Nat, n < 2 ^ 48 → Ev (fun k => laws_markText.f k (n : Int)) (T n)) (m : Nat) (hm : m < 2 ^ 44) (d : Nat) : ∀ (xs : List S42) (i : Nat), i + d = xs.length → xs.length < 2 ^ 40 → (∀ j, j < i → xs.getD j z42 = ⟨((m + 2 * j : Nat) : Int), T (m + 2 * j + 1)⟩) →
    ∃ ys, Ev (fun k => laws_markWriteS.l0 k xs ((m + 2 * i : Nat) : Int) (i : Int)) (((m + 2 * xs.length : Nat) : Int), ys) ∧ ys.length = xs.length ∧ ∀ j, j < xs.length → ys.getD j z42 = ⟨((m + 2 * j : Nat) : Int), T (m + 2 * j + 1)⟩ := by
  induction d with
  | zero =>
    intro xs i hi _ hxs
    refine ⟨xs, Ev.step (fun k => by simp only [laws_markWriteS.l0]; rw [if_neg (by omega)]) (by rw [show i = xs.length by omega]; exact Ev.now _), rfl, fun j hj => hxs j (by omega)⟩
  | succ d ih =>
    intro xs i hi hl hxs
    obtain ⟨ys, hr, hn, hy⟩ := ih (xs.set i ⟨((m + 2 * i : Nat) : Int), T (m + 2 * i + 1)⟩) (i + 1) (by rw [List.length_set]; omega) (by rw [List.length_set]; omega) (fun j hj => by
      rw [gset _ _ _ _ _ (by omega)]
      split
      · rename_i e; subst e; rfl
      · exact hxs j (by omega))
    rw [List.length_set] at hr hn hy
    have hw : wrap64 (((m + 2 * i : Nat) : Int) + 1) = ((m + 2 * i + 1 : Nat) : Int) := by unfold wrap64; omega
    have hw2 : wrap64 (((m + 2 * i + 1 : Nat) : Int) + 1) = ((m + 2 * (i + 1) : Nat) : Int) := by unfold wrap64; omega
    have st : ∀ k, laws_markWriteS.l0 (k + 1) xs ((m + 2 * i : Nat) : Int) (i : Int) = (laws_markText.f k ((m + 2 * i + 1 : Nat) : Int)).bind fun t => laws_markWriteS.l0 k (xs.set i ⟨((m + 2 * i : Nat) : Int), t⟩) ((m + 2 * (i + 1) : Nat) : Int) ((i + 1 : Nat) : Int) := fun k => by
      rw [laws_markWriteS.l0]
      rw [if_pos (by omega), if_pos (by omega), Option.bind_some, hw, hw2, inc i (by omega), Int.toNat_natCast]
      simp only [rd_write, List.set_set]
      rw [gset _ _ _ _ _ (by omega), if_pos rfl]
    exact ⟨ys, Ev.step st (Ev.bind (hT (m + 2 * i + 1) (by omega)) hr), hn, hy⟩
theorem mark_device (xs : List ByteArray) (ws : List S42) (hx : xs.length < 2 ^ 40) (hw : ws.length < 2 ^ 40) :
    ∃ (m : Nat) (ys : List ByteArray) (vs : List S42), Ev (fun k => laws_markDevice.f k xs ws 1) ((m : Int), ys, vs) := by
  obtain ⟨T, hT⟩ := mark_texts
  obtain ⟨ys, h1, h2, h3⟩ := mark_strs_l T hT 1 (by omega) xs.length xs 0 (by omega) hx (fun j hj => by omega)
  obtain ⟨vs, g1, g2, g3⟩ := mark_writes_l T hT (1 + xs.length) (by omega) ws.length ws 0 (by omega) hw (fun j hj => by omega)
  exact ⟨_, ys, vs, Ev.bind h1 (Ev.bind g1 (Ev.now _))⟩

/-- a number put into a rising list, once -/
def putU (n : Int) : List Int → List Int
  | [] => [n]
  | y :: l => if y < n then y :: putU n l else if y = n then y :: l else n :: y :: l
theorem putU_mem (n : Int) : ∀ (l : List Int) (x : Int), x ∈ putU n l ↔ x = n ∨ x ∈ l
  | [], x => by rw [putU]; simp
  | y :: l, x => by
    rw [putU]
    split
    · rw [List.mem_cons, putU_mem n l x, List.mem_cons]
      constructor
      · rintro (h | h | h)
        · exact Or.inr (Or.inl h)
        · exact Or.inl h
        · exact Or.inr (Or.inr h)
      · rintro (h | h | h)
        · exact Or.inr (Or.inl h)
        · exact Or.inl h
        · exact Or.inr (Or.inr h)
    · split
      · rename_i h; subst h; rw [List.mem_cons]; constructor
        · exact Or.inr
        · rintro (h | h)
          · exact Or.inl h
          · exact h
      · rw [List.mem_cons]
theorem putU_rise (n : Int) : ∀ {l : List Int}, List.Pairwise (· < ·) l → List.Pairwise (· < ·) (putU n l)
  | [], _ => by rw [putU]; exact List.Pairwise.cons (fun _ h => by cases h) List.Pairwise.nil
  | y :: l, h => by
    rw [putU]
    split
    · rename_i hy
      refine List.Pairwise.cons (fun z hz => ?_) (putU_rise n (List.Pairwise.of_cons h))
      rcases (putU_mem n l z).mp hz with rfl | hz
      · exact hy
      · exact List.rel_of_pairwise_cons h hz
    · split
      · exact h
      · rename_i h1 h2
        refine List.Pairwise.cons (fun z hz => ?_) h
        rcases List.mem_cons.mp hz with rfl | hz
        · omega
        · have := List.rel_of_pairwise_cons h hz; omega
theorem putU_len (n : Int) : ∀ l : List Int, (putU n l).length ≤ l.length + 1
  | [] => by simp [putU]
  | y :: l => by
    have := putU_len n l
    rw [putU]
    split
    · simp only [List.length_cons]; omega
    · split <;> simp only [List.length_cons] <;> omega
theorem rise_ext : ∀ {l m : List Int}, List.Pairwise (· < ·) l → List.Pairwise (· < ·) m → (∀ x, x ∈ l ↔ x ∈ m) → l = m
  | [], [], _, _, _ => rfl
  | [], y :: m, _, _, h => absurd ((h y).mpr List.mem_cons_self) (by simp)
  | x :: l, [], _, _, h => absurd ((h x).mp List.mem_cons_self) (by simp)
  | x :: l, y :: m, hl, hm, h => by
    have e : x = y := by
      rcases List.mem_cons.mp ((h x).mp List.mem_cons_self) with e | hx
      · exact e
      · rcases List.mem_cons.mp ((h y).mpr List.mem_cons_self) with e | hy
        · exact e.symm
        · have := List.rel_of_pairwise_cons hm hx
          have := List.rel_of_pairwise_cons hl hy
          omega
    subst e
    congr 1
    refine rise_ext (List.Pairwise.of_cons hl) (List.Pairwise.of_cons hm) (fun z => ?_)
    constructor
    · intro hz
      have := List.rel_of_pairwise_cons hl hz
      rcases List.mem_cons.mp ((h z).mp (List.mem_cons_of_mem _ hz)) with e | hz'
      · omega
      · exact hz'
    · intro hz
      have := List.rel_of_pairwise_cons hm hz
      rcases List.mem_cons.mp ((h z).mpr (List.mem_cons_of_mem _ hz)) with e | hz'
      · omega
      · exact hz'
theorem compact_rise (zs : List Int) (hs : List.Pairwise (· ≤ ·) zs) : List.Pairwise (· < ·) (Go.Lib.compact zs) := by
  unfold Go.Lib.compact Go.Lib.compactUpTo
  rw [List.pairwise_map, List.pairwise_filter]
  refine List.Pairwise.imp_of_mem (R := (· < ·)) ?_ List.pairwise_lt_range
  intro i j hi hj hlt _ hk
  have hj' := List.mem_range.mp hj
  have hi' := List.mem_range.mp hi
  have g := fun (q : Nat) (h : q < zs.length) => getElem!_pos zs.toArray q (by simpa using h)
  unfold Go.Lib.keeps at hk
  rw [decide_eq_true_eq] at hk
  rcases hk with hk | hk
  · omega
  · rw [g i hi', g j hj']
    rw [g j hj', g (j - 1) (by omega)] at hk
    have h1 := List.pairwise_iff_getElem.mp hs (j - 1) j (by omega) hj' (by omega)
    simp only [List.getElem_toArray] at hk ⊢
    rcases Nat.lt_or_ge i (j - 1) with h2 | h2
    · have h3 := List.pairwise_iff_getElem.mp hs i (j - 1) hi' (by omega) h2
      omega
    · have e : i = j - 1 := by omega
      subst e
      omega
theorem compact_mem (zs : List Int) (x : Int) : x ∈ Go.Lib.compact zs ↔ x ∈ zs := by
  unfold Go.Lib.compact Go.Lib.compactUpTo
  have g := fun (q : Nat) (h : q < zs.length) => getElem!_pos zs.toArray q (by simpa using h)
  rw [List.mem_map]
  constructor
  · rintro ⟨j, hj, rfl⟩
    have hj' := List.mem_range.mp (List.mem_filter.mp hj).1
    rw [g j hj']
    simp
  · intro hx
    obtain ⟨j, hj, rfl⟩ := List.getElem_of_mem hx
    have : ∀ (q : Nat) (hq : q ≤ j), zs[q]'(by omega) = zs[j] → ∃ a, a ∈ List.filter (Go.Lib.keeps zs.toArray) (List.range zs.length) ∧ zs.toArray[a]! = zs[j] := by
      intro q
      induction q with
      | zero =>
        intro _ h
        exact ⟨0, List.mem_filter.mpr ⟨List.mem_range.mpr (by omega), by unfold Go.Lib.keeps; simp⟩, by rw [g 0 (by omega)]; simpa using h⟩
      | succ q ih =>
        intro hq h
        by_cases hc : zs[q]'(by omega) = zs[j]
        · exact ih (by omega) hc
        · refine ⟨q + 1, List.mem_filter.mpr ⟨List.mem_range.mpr (by omega), ?_⟩, by rw [g (q + 1) (by omega)]; simpa using h⟩
          unfold Go.Lib.keeps
          rw [decide_eq_true_eq, g (q + 1) (by omega), Nat.add_sub_cancel, g q (by omega)]
          right
          simp only [List.getElem_toArray]
          rw [h]
          exact fun e => hc e.symm
    exact this j (Nat.le_refl _) rfl
def putAllU : List Int → List Int → List Int
  | o, [] => o
  | o, x :: l => putAllU (putU x o) l
theorem putAllU_mem : ∀ (l o : List Int) (x : Int), x ∈ putAllU o l ↔ x ∈ o ∨ x ∈ l
  | [], o, x => by rw [putAllU]; simp
  | y :: l, o, x => by
    rw [putAllU, putAllU_mem l, putU_mem, List.mem_cons]
    constructor
    · rintro ((h | h) | h)
      · exact Or.inr (Or.inl h)
      · exact Or.inl h
      · exact Or.inr (Or.inr h)
    · rintro (h | h | h)
      · exact Or.inl (Or.inr h)
      · exact Or.inl (Or.inl h)
      · exact Or.inr h
theorem putAllU_rise : ∀ (l : List Int) {o : List Int}, List.Pairwise (· < ·) o → List.Pairwise (· < ·) (putAllU o l)
  | [], _, h => h
  | y :: l, _, h => by rw [putAllU]; exact putAllU_rise l (putU_rise y h)
theorem dirty_eq (l : List Int) : Go.Lib.compact (l.mergeSort fun x y => decide (x ≤ y)) = putAllU [] l := by
  refine rise_ext (compact_rise _ ?_) (putAllU_rise l List.Pairwise.nil) (fun x => ?_)
  · have := List.pairwise_mergeSort (le := fun x y : Int => decide (x ≤ y)) (fun a b c h1 h2 => by rw [decide_eq_true_eq] at *; omega) (fun a b => by rw [Bool.or_eq_true, decide_eq_true_eq, decide_eq_true_eq]; omega) l
    exact this.imp (fun h => of_decide_eq_true h)
  · rw [compact_mem, List.mem_mergeSort, putAllU_mem]
    simp

theorem rd_nat (l : List Int) (i : Nat) : rd l (i : Int) = l.getD i 0 := by unfold rd; rw [Int.toNat_natCast]
theorem cut_at (l : List Int) (i : Nat) (h : i < l.length) : l.drop i = l.getD i 0 :: l.drop (i + 1) := by
  rw [List.drop_eq_getElem_cons h, List.getD_eq_getElem?_getD, List.getElem?_eq_getElem h]; rfl
theorem ev_put_l (l : List Int) (n : Int) (hl : l.length < 2 ^ 40) (d : Nat) : ∀ i : Nat, i + d = l.length → Ev (fun k => spec_l1Put.l0 k l n (i : Int)) (l.take i ++ putU n (l.drop i)) := by
  induction d with
  | zero =>
    intro i hi
    rw [List.drop_eq_nil_of_le (by omega), putU]
    refine Ev.step (fun k => by simp only [spec_l1Put.l0]; rw [if_neg (by omega), if_pos (by omega), if_pos (by omega), Int.toNat_natCast]) ?_
    refine ev_some (evp (by simp only [List.length_nil, List.length_take]; omega) (ev_some (evp (by simp only [List.nil_append, List.length_take]; omega) (ev_some (ev_some (evp ?_ ?_))))))
    · simp only [List.nil_append, List.length_append, List.length_take, List.length_cons, List.length_nil, List.length_drop]; omega
    · rw [List.drop_eq_nil_of_le (by omega), List.nil_append, List.append_nil]
      exact Ev.now _
  | succ d ih =>
    intro i hi
    have hlt : i < l.length := by omega
    have ht : l.take (i + 1) = l.take i ++ [l.getD i 0] := by
      rw [List.take_add_one, List.getElem?_eq_getElem hlt, List.getD_eq_getElem?_getD, List.getElem?_eq_getElem hlt]; rfl
    rw [cut_at l i hlt, putU]
    refine Ev.step (fun k => by simp only [spec_l1Put.l0]; rw [if_pos (by omega), if_pos (by omega), rd_nat, inc i (by omega), Int.toNat_natCast]) ?_
    by_cases h1 : l.getD i 0 < n
    · rw [if_pos h1]
      refine evp h1 ?_
      have := ih (i + 1) (by omega)
      rw [ht, List.append_assoc] at this
      exact this
    · rw [if_neg h1]
      refine evn h1 ?_
      by_cases h2 : l.getD i 0 = n
      · rw [if_pos h2, ← cut_at l i hlt, if_pos h2, List.take_append_drop]
        exact Ev.now _
      · rw [if_neg h2, ← cut_at l i hlt]
        try rw [if_neg h2]
        refine evp (by omega) ?_
        refine ev_some (evp (by simp only [List.length_nil, List.length_take]; omega) (ev_some (evp (by simp only [List.nil_append, List.length_take]; omega) (ev_some (ev_some (evp ?_ ?_))))))
        · simp only [List.nil_append, List.length_append, List.length_take, List.length_cons, List.length_nil, List.length_drop]; omega
        · rw [List.nil_append, List.append_assoc, List.singleton_append]
          exact Ev.now _
theorem ev_put (l : List Int) (n : Int) (hl : l.length < 2 ^ 40) : Ev (fun k => spec_l1Put.f k l n) (putU n l) := ev_put_l l n hl l.length 0 (by omega)
theorem spec_dirty_l (ws : List S42) (hw : ws.length ≤ 60) (d : Nat) : ∀ (i : Nat) (o : List Int), i + d = ws.length → o.length ≤ i → Ev (fun k => spec_DirtyOf.l0 k o ws (ws.length : Int) (i : Int)) (putAllU o ((ws.drop i).map S42.f0), true) := by
  induction d with
  | zero =>
    intro i o hi ho
    rw [List.drop_eq_nil_of_le (by omega), List.map_nil, putAllU]
    exact Ev.step (fun k => by simp only [spec_DirtyOf.l0]; rw [if_neg (by omega)]) (Ev.now _)
  | succ d ih =>
    intro i o hi ho
    have hlt : i < ws.length := by omega
    rw [List.drop_eq_getElem_cons hlt]
    have hg : ws.getD i z42 = ws[i] := by rw [List.getD_eq_getElem?_getD, List.getElem?_eq_getElem hlt]; rfl
    refine Ev.step (fun k => by simp only [spec_DirtyOf.l0]; rw [if_pos (by omega), if_pos (by omega), if_pos (by omega), rd_write, hg, inc i (by omega)]) ?_
    exact Ev.bind (ev_put o _ (by omega)) (ih (i + 1) _ (by omega) (by have := putU_len (ws[i]).f0 o; omega))
theorem impl_dirty_l (ws : List S42) (hw : ws.length ≤ 60) (d : Nat) : ∀ (i : Nat) (o : List Int), i + d = ws.length → o.length = i → Ev (fun k => impl_DirtyOf.l0 k o ws (ws.length : Int) (i : Int)) (putAllU [] (o ++ (ws.drop i).map S42.f0), true) := by
  induction d with
  | zero =>
    intro i o hi ho
    rw [List.drop_eq_nil_of_le (by omega), List.map_nil, List.append_nil, ← dirty_eq]
    refine Ev.step (fun k => by simp only [impl_DirtyOf.l0]; rw [if_neg (by omega)]) ?_
    exact ev_to_some (show slices_Compact_int_int.f o = some (Lib.compact (o.mergeSort fun x y => decide (x ≤ y))) by unfold slices_Compact_int_int.f; rw [if_pos (by omega)]) (Ev.now _)
  | succ d ih =>
    intro i o hi ho
    have hlt : i < ws.length := by omega
    have hg : ws.getD i z42 = ws[i] := by rw [List.getD_eq_getElem?_getD, List.getElem?_eq_getElem hlt]; rfl
    refine Ev.step (fun k => by simp only [impl_DirtyOf.l0]; rw [if_pos (by omega), if_pos (by omega), if_pos (by omega), if_pos (by omega), rd_write, hg, inc i (by omega)]) ?_
    have := ih (i + 1) (o ++ [(ws[i]).f0]) (by omega) (by rw [List.length_append]; simp only [List.length_cons, List.length_nil]; omega)
    rw [List.append_assoc, List.singleton_append, ← List.map_cons, ← List.drop_eq_getElem_cons hlt] at this
    exact this
theorem putAllU_len : ∀ (l o : List Int), (putAllU o l).length ≤ o.length + l.length
  | [], o => by rw [putAllU]; simp
  | y :: l, o => by
    have h1 := putAllU_len l (putU y o)
    have h2 := putU_len y o
    rw [putAllU, List.length_cons]; omega
theorem both_DirtyOf (xs : List ByteArray) (ws : List S42) (hx : xs.length < 2 ^ 40) (hw : ws.length < 2 ^ 40) :
    ∃ (r : List Int) (ok : Bool), r.length ≤ 60 ∧ Ev (fun k => spec_DirtyOf.f k xs ws) (r, ok) ∧ Ev (fun k => impl_DirtyOf.f k xs ws) (r, ok) := by
  have hs := spec_goodD xs ws hx hw
  unfold spec_DirtyOf.f impl_DirtyOf.f
  cases hg : goodD xs ws with
  | false =>
    rw [hg] at hs
    refine ⟨[], false, by simp, Ev.bind hs (evn (by decide) (Ev.now _)), ev_to_some (impl_goodD xs ws) ?_⟩
    rw [hg]
    exact evn (by decide) (Ev.now _)
  | true =>
    rw [hg] at hs
    obtain ⟨g1, g2, g3, g4⟩ := good_valid hg
    refine ⟨putAllU [] (ws.map S42.f0), true, by have := putAllU_len (ws.map S42.f0) []; rw [List.length_map] at this; simp only [List.length_nil] at this; omega, Ev.bind hs (evp rfl ?_), ev_to_some (impl_goodD xs ws) ?_⟩
    · exact spec_dirty_l ws g2 ws.length 0 [] (by omega) (by simp)
    · rw [hg]
      exact evp rfl (impl_dirty_l ws g2 ws.length 0 [] (by omega) rfl)
theorem eq_ints_l (l : List Int) (hl : l.length < 2 ^ 40) (d : Nat) : ∀ i : Nat, i + d = l.length → Ev (fun k => laws_eqIntS.l0 k l l (i : Int)) true := by
  induction d with
  | zero => intro i hi; exact Ev.step (fun k => by simp only [laws_eqIntS.l0]; rw [if_neg (by omega)]) (Ev.now _)
  | succ d ih => intro i hi; exact Ev.step (fun k => by simp only [laws_eqIntS.l0, if_true]; rw [if_pos (by omega), if_pos (by omega), if_pos (by omega), inc i (by omega)]) (ih (i + 1) (by omega))
theorem eq_ints (l : List Int) (hl : l.length < 2 ^ 40) : Ev (fun k => laws_eqIntS.f k l l) true := by
  unfold laws_eqIntS.f
  exact evp rfl (eq_ints_l l hl l.length 0 (by omega))
theorem mark_ints_l (n : Nat) (hn : n ≤ 60) (d : Nat) : ∀ (i : Nat) (zs : List Int), i + d = n → zs.length = n → (∀ j, j < i → zs.getD j 0 = 1 + (j : Int)) → ∃ ys : List Int, ys.length = n ∧ (∀ j, j < n → ys.getD j 0 = 1 + (j : Int)) ∧ Ev (fun k => laws_markIntS.l0 k zs (1 + (i : Int)) (i : Int)) (1 + (n : Int), ys) := by
  induction d with
  | zero =>
    intro i zs hi hz hj
    obtain rfl : i = n := by omega
    exact ⟨zs, hz, hj, Ev.step (fun k => by simp only [laws_markIntS.l0]; rw [if_neg (by omega)]) (Ev.now _)⟩
  | succ d ih =>
    intro i zs hi hz hj
    have w1 : wrap64 (1 + (i : Int) + 1) = 1 + ((i + 1 : Nat) : Int) := by unfold wrap64; omega
    obtain ⟨ys, h1, h2, h3⟩ := ih (i + 1) (zs.set i (1 + (i : Int))) (by omega) (by rw [List.length_set]; exact hz) (fun j hji => by
      rw [gset _ _ _ _ _ (by omega)]
      split
      · rename_i h; rw [h]
      · exact hj j (by omega))
    exact ⟨ys, h1, h2, Ev.step (fun k => by simp only [laws_markIntS.l0]; rw [if_pos (by omega), if_pos (by omega), w1, inc i (by omega), Int.toNat_natCast]) h3⟩
theorem held_ints_l (n : Nat) (hn : n ≤ 60) (ys : List Int) (hy : ys.length = n) (hj : ∀ j, j < n → ys.getD j 0 = 1 + (j : Int)) (d : Nat) : ∀ i : Nat, i + d = n → Ev (fun k => laws_heldIntS.l0 k ys (1 + (i : Int)) (i : Int)) (1 + (n : Int)) := by
  induction d with
  | zero =>
    intro i hi
    obtain rfl : i = n := by omega
    exact Ev.step (fun k => by simp only [laws_heldIntS.l0]; rw [if_neg (by omega)]) (Ev.now _)
  | succ d ih =>
    intro i hi
    have w1 : wrap64 (1 + (i : Int) + 1) = 1 + ((i + 1 : Nat) : Int) := by unfold wrap64; omega
    exact Ev.step (fun k => by simp only [laws_heldIntS.l0]; rw [if_pos (by omega), if_pos (by omega), rd_nat, hj i (by omega), if_pos rfl, w1, inc i (by omega)]) (ih (i + 1) (by omega))
theorem marked_ints (l : List Int) (hl : l.length ≤ 60) : ∃ ys : List Int, Ev (fun k => laws_markIntS.f k l 1) (1 + (l.length : Int), ys) ∧ Ev (fun k => laws_heldIntS.f k ys 1) (1 + (l.length : Int)) := by
  obtain ⟨ys, h1, h2, h3⟩ := mark_ints_l l.length hl l.length 0 l (by omega) rfl (fun j h => by omega)
  exact ⟨ys, h3, held_ints_l l.length hl ys h1 h2 l.length 0 (by omega)⟩
theorem FnExactDirtyOf : laws_FnExactDirtyOf.PureG := by
  intro xs ws hl hw
  refine Ev.rounds ?_
  obtain ⟨r, h1, h2⟩ := sz_device xs ws hl hw 1048576 (by omega) (by omega)
  unfold laws_FnExactDirtyOf.f
  refine Ev.bind h1 ?_
  by_cases hr : r < 0
  · exact evp hr (Ev.now _)
  · obtain ⟨hx, hy⟩ : xs.length < 2 ^ 40 ∧ ws.length < 2 ^ 40 := by omega
    have T := to_device xs ws hx hy
    have Q0 := eq_device xs (ws.map convWrite) hx (conv_len ws hy)
    obtain ⟨o, ok, ho, e1, e2⟩ := both_DirtyOf xs (ws.map convWrite) hx (conv_len ws hy)
    have Q := eq_ints o (by omega)
    obtain ⟨m, ys, vs, m1⟩ := mark_device xs (ws.map convWrite) hx (conv_len ws hy)
    obtain ⟨zs, m3, m4⟩ := marked_ints o ho
    refine evn hr (Ev.bind T (Ev.bind e1 (Ev.bind T (Ev.bind e2 (Ev.bind Q (evp rfl ?_))))))
    rw [bne_self_eq_false]
    refine Ev.step (fun k => by simp only [laws_FnExactDirtyOf.j0]; rw [if_neg (by decide)]) (Ev.bind T (Ev.bind Q0 (evp rfl (Ev.bind m1 (evn (nn _) (Ev.bind Q (evp rfl ?_)))))))
    rw [bne_self_eq_false]
    refine Ev.step (fun k => by simp only [laws_FnExactDirtyOf.j1]; rw [if_neg (by decide)]) (Ev.bind m3 (Ev.bind m4 (evn (by show ¬ 1 + (o.length : Int) < 0; omega) (evp rfl (Ev.bind T (Ev.bind e2 (Ev.bind Q (evp rfl ?_))))))))
    rw [bne_self_eq_false]
    exact Ev.step (fun k => by simp only [laws_FnExactDirtyOf.j2]; rw [if_neg (by decide)]) (Ev.bind m4 (evn (by show ¬ 1 + (o.length : Int) < 0; omega) (evp rfl (Ev.now _))))

end Go.Proofs.Ytlhgkbleciokmaa.Pure
