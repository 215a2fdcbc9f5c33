/- The law of trees without a program in sight: branchOf and isGood against the reference's reading; goodBranch; the reference's keys; no condition. -/
import Derived.Test.YtmgbfbpolmbnfaaQFnExactKeysOft3
namespace Go.Proofs.Ytmgbfbpolmbnfaa.PFnExactKeysOf
open Go.RowKit Go.Proofs.YtmgbfbpolmbnfaaW.PrintWords Go.Proofs.YtmgbfbpolmbnfaaW.PrintLast Go.Proofs.YtmgbfbpolmbnfaaW.PrintMore
set_option linter.unusedVariables false
set_option linter.unusedSimpArgs false
set_option maxRecDepth 100000

/-! #### spans: a forest of trees one behind the other -/
def FoS (P : Nat → Nat → S47 → Prop) : Nat → List Int → Nat → List S47 → Prop
  | a, [], e, xs => a = e ∧ xs = []
  | a, q :: qs, e, xs => ∃ (k : Nat) (y : S47) (ys : List S47), q = (k : Int) ∧ xs = y :: ys ∧ P a k y ∧ FoS P (k + 1) qs e ys
def TrS (ns : List S73) : Nat → Nat → Nat → S47 → Prop
  | 0, _, _, _ => False
  | m + 1, a, k, x => k < ns.length ∧ x.f0 = (nodeAt ns k).f1 ∧ (nodeAt ns k).f0 = decide ((nodeAt ns k).f2.length = 0) ∧ FoS (TrS ns m) a (nodeAt ns k).f2 k x.f1
theorem FoS_imp {P Q : Nat → Nat → S47 → Prop} (h : ∀ a k x, P a k x → Q a k x) : ∀ (qs : List Int) (a e : Nat) (xs : List S47), FoS P a qs e xs → FoS Q a qs e xs
  | [], _, _, _, q => q
  | _ :: qs, _, _, _, q => by
    obtain ⟨k, y, ys, e1, e2, hp, hf⟩ := q
    exact ⟨k, y, ys, e1, e2, h _ _ _ hp, FoS_imp h qs _ _ _ hf⟩
theorem FoS_impm {P Q : Nat → Nat → S47 → Prop} : ∀ (qs : List Int) (a e : Nat) (xs : List S47) (_ : ∀ a k x, x ∈ xs → P a k x → Q a k x), FoS P a qs e xs → FoS Q a qs e xs
  | [], _, _, _, _, q => q
  | _ :: qs, _, _, xs, h, q => by
    obtain ⟨k, y, ys, e1, e2, hp, hf⟩ := q
    subst e2
    exact ⟨k, y, ys, e1, rfl, h _ _ _ (by simp) hp, FoS_impm qs _ _ _ (fun a k x hx => h a k x (by simp [hx])) hf⟩
theorem FoS_len {P : Nat → Nat → S47 → Prop} : ∀ (qs : List Int) (a e : Nat) (xs : List S47), FoS P a qs e xs → xs.length = qs.length
  | [], _, _, _, q => by rw [q.2]; rfl
  | _ :: qs, _, _, _, q => by
    obtain ⟨k, y, ys, e1, e2, hp, hf⟩ := q
    rw [e2, List.length_cons, List.length_cons, FoS_len qs _ _ _ hf]
theorem FoS_app {P : Nat → Nat → S47 → Prop} {qs' : List Int} {e e' : Nat} {xs' : List S47} (h' : FoS P e qs' e' xs') : ∀ (qs : List Int) (a : Nat) (xs : List S47), FoS P a qs e xs → FoS P a (qs ++ qs') e' (xs ++ xs')
  | [], a, xs, q => by
    obtain ⟨rfl, rfl⟩ := q
    exact h'
  | _ :: qs, _, _, q => by
    obtain ⟨k, y, ys, e1, e2, hp, hf⟩ := q
    exact ⟨k, y, ys ++ xs', e1, by rw [e2, List.cons_append], hp, FoS_app h' qs _ _ hf⟩
theorem FoS_split {P : Nat → Nat → S47 → Prop} {qs' : List Int} {e' : Nat} : ∀ (qs : List Int) (a : Nat) (xs : List S47), FoS P a (qs ++ qs') e' xs → ∃ e, FoS P a qs e (xs.take qs.length) ∧ FoS P e qs' e' (xs.drop qs.length)
  | [], a, xs, q => ⟨a, ⟨rfl, by simp⟩, by simpa using q⟩
  | _ :: qs, _, _, q => by
    obtain ⟨k, y, ys, e1, e2, hp, hf⟩ := q
    obtain ⟨e, h1, h2⟩ := FoS_split qs _ _ hf
    exact ⟨e, ⟨k, y, ys.take qs.length, e1, by rw [e2, List.length_cons, List.take_succ_cons], hp, h1⟩, by rw [e2, List.length_cons, List.drop_succ_cons]; exact h2⟩
theorem FoS_le {P : Nat → Nat → S47 → Prop} (hP : ∀ a k x, P a k x → a ≤ k) : ∀ (qs : List Int) (a e : Nat) (xs : List S47), FoS P a qs e xs → a ≤ e
  | [], _, _, _, q => Nat.le_of_eq q.1
  | _ :: qs, a, e, _, q => by
    obtain ⟨k, y, ys, e1, e2, hp, hf⟩ := q
    have := hP _ _ _ hp
    have := FoS_le hP qs _ _ _ hf
    omega
theorem TrS_le (ns : List S73) : ∀ (m a k : Nat) (x : S47), TrS ns m a k x → a ≤ k
  | 0, _, _, _, h => h.elim
  | m + 1, _, _, _, h => FoS_le (TrS_le ns m) _ _ _ _ h.2.2.2
theorem TrS_succ (ns : List S73) : ∀ (m a k : Nat) (x : S47), TrS ns m a k x → TrS ns (m + 1) a k x
  | 0, _, _, _, h => h.elim
  | m + 1, _, _, _, h => ⟨h.1, h.2.1, h.2.2.1, FoS_imp (TrS_succ ns m) _ _ _ _ h.2.2.2⟩
theorem TrS_mono (ns : List S73) {m m' : Nat} (hm : m ≤ m') {a k : Nat} {x : S47} (h : TrS ns m a k x) : TrS ns m' a k x := by
  obtain ⟨j, rfl⟩ := Nat.exists_eq_add_of_le hm
  clear hm
  induction j with
  | zero => exact h
  | succ j ih => exact TrS_succ ns _ _ _ _ ih
/-! #### what branchOf loads are such spans -/
theorem loadF_fo (ns : List S73) : ∀ (i : Nat) (ts : List S47) (op : List Int), i ≤ ns.length → loadF ns i = some (ts, op) → FoS (TrS ns i) 0 op i (op.map fun q => ts.getD q.toNat z47)
  | 0, ts, op, _, h => by
    cases h
    exact ⟨rfl, rfl⟩
  | i + 1, ts, op, hi, h => by
    rw [loadF] at h
    cases h0 : loadF ns i with
    | none => rw [h0] at h; cases h
    | some p =>
      obtain ⟨t0, o0⟩ := p
      rw [h0, Option.bind_some] at h
      by_cases hs : stepOk o0 (nodeAt ns i) = true
      · rw [if_pos hs] at h
        cases h
        obtain ⟨hl, _, hb⟩ := loadF_inv ns i t0 o0 h0
        have ih := loadF_fo ns i t0 o0 (by omega) h0
        have hs' := hs
        rw [stepOk, Bool.and_eq_true, Bool.and_eq_true, decide_eq_true_iff, decide_eq_true_iff, beq_iff_eq] at hs'
        obtain ⟨⟨hlf, hle⟩, hk⟩ := hs'
        have hsp : o0.take (o0.length - (nodeAt ns i).f2.length) ++ (nodeAt ns i).f2 = o0 := by
          conv => lhs; rhs; rw [← hk]
          exact List.take_append_drop _ _
        have htl : (o0.take (o0.length - (nodeAt ns i).f2.length)).length = o0.length - (nodeAt ns i).f2.length := by rw [List.length_take]; omega
        generalize hA : o0.take (o0.length - (nodeAt ns i).f2.length) = A at *
        rw [← hsp] at ih
        obtain ⟨e, f1, f2⟩ := FoS_split _ _ _ ih
        rw [List.map_append, List.take_left' (by rw [List.length_map])] at f1
        rw [List.map_append, List.drop_left' (by rw [List.length_map])] at f2
        have hA2 : ∀ q, q ∈ A → q.toNat < t0.length := fun q hq => by
          have := hb q (by rw [← hsp]; exact List.mem_append_left _ hq)
          omega
        have e1 : A.map (fun q => (t0 ++ [mkB t0 (nodeAt ns i)]).getD q.toNat z47) = A.map (fun q => t0.getD q.toNat z47) := List.map_congr_left fun q hq => getD_left _ _ _ _ (hA2 q hq)
        rw [List.map_append, e1, List.map_cons, List.map_nil, Int.toNat_natCast, getD_last _ _ _ _ hl.symm]
        exact FoS_app (P := TrS ns (i + 1)) (qs' := [(i : Int)]) (xs' := [mkB t0 (nodeAt ns i)]) ⟨i, _, [], rfl, rfl, ⟨hi, rfl, hlf, f2⟩, rfl, rfl⟩ _ _ _ (FoS_imp (TrS_succ ns i) _ _ _ _ f1)
      · rw [if_neg hs] at h
        cases h
theorem branchF_tr (ns : List S73) (root : Int) (x : S47) (h : branchF ns root = some x) : ns.length ≤ 200 ∧ 0 < ns.length ∧ root = (ns.length : Int) - 1 ∧ TrS ns ns.length 0 (ns.length - 1) x := by
  rw [branchF] at h
  by_cases hn : 200 < ns.length
  · rw [if_pos hn] at h; cases h
  · rw [if_neg hn] at h
    cases h0 : loadF ns ns.length with
    | none => rw [h0] at h; cases h
    | some p =>
      obtain ⟨ts, op⟩ := p
      rw [h0, Option.bind_some] at h
      by_cases hr : op = [root]
      · rw [if_pos hr] at h
        cases h
        have := loadF_fo ns _ ts op (Nat.le_refl _) h0
        rw [hr] at this
        obtain ⟨k, y, ys, e1, e2, hp, e3, e4⟩ := this
        simp only [List.map_cons, List.map_nil, List.cons.injEq] at e2
        rw [e2.1]
        have hk : k = ns.length - 1 := by omega
        rw [hk] at hp
        exact ⟨by omega, by omega, by omega, hp⟩
      · rw [if_neg hr] at h; cases h
/-! #### spans are loaded by branchOf -/
theorem FoS_load (ns : List S73) (P : Nat → Nat → S47 → Prop) (hle : ∀ a k x, P a k x → a ≤ k) (hP : ∀ a k x ts op, P a k x → loadF ns a = some (ts, op) → ∃ us, loadF ns (k + 1) = some (ts ++ us, op ++ [(k : Int)]) ∧ (ts ++ us).getD k z47 = x) : ∀ (qs : List Int) (a e : Nat) (xs : List S47) (ts : List S47) (op : List Int), FoS P a qs e xs → loadF ns a = some (ts, op) → ∃ us, loadF ns e = some (ts ++ us, op ++ qs) ∧ qs.map (fun q => (ts ++ us).getD q.toNat z47) = xs
  | [], a, e, xs, ts, op, q, h => by
    obtain ⟨rfl, rfl⟩ := q
    exact ⟨[], by rw [List.append_nil, List.append_nil]; exact h, rfl⟩
  | q :: qs, a, e, xs, ts, op, hq, h => by
    obtain ⟨k, y, ys, rfl, rfl, hp, hf⟩ := hq
    obtain ⟨us, h1, h2⟩ := hP _ _ _ _ _ hp h
    obtain ⟨vs, h3, h4⟩ := FoS_load ns P hle hP qs _ _ _ _ _ hf h1
    have hl := (loadF_inv ns _ _ _ h1).1
    refine ⟨us ++ vs, by rw [← List.append_assoc, h3, List.append_assoc op]; rfl, ?_⟩
    rw [List.map_cons, ← List.append_assoc, h4, Int.toNat_natCast, getD_left (ts ++ us) vs k z47 (by omega), h2]
theorem TrS_load (ns : List S73) : ∀ (m a k : Nat) (x : S47) (ts : List S47) (op : List Int), TrS ns m a k x → loadF ns a = some (ts, op) → ∃ us, loadF ns (k + 1) = some (ts ++ us, op ++ [(k : Int)]) ∧ (ts ++ us).getD k z47 = x
  | 0, _, _, _, _, _, h, _ => h.elim
  | m + 1, a, k, x, ts, op, h, h0 => by
    obtain ⟨hk, hx, hlf, hf⟩ := h
    obtain ⟨us, h1, h2⟩ := FoS_load ns (TrS ns m) (TrS_le ns m) (fun a k x ts op => TrS_load ns m a k x ts op) _ _ _ _ _ _ hf h0
    have hl := (loadF_inv ns _ _ _ h1).1
    have hs : stepOk (op ++ (nodeAt ns k).f2) (nodeAt ns k) = true := by
      rw [stepOk, Bool.and_eq_true, Bool.and_eq_true, decide_eq_true_iff, decide_eq_true_iff, beq_iff_eq]
      refine ⟨⟨hlf, by rw [List.length_append]; omega⟩, ?_⟩
      rw [List.length_append, Nat.add_sub_cancel, List.drop_left]
    have h3 := loadF_go ns h1 hs
    rw [List.length_append, Nat.add_sub_cancel, List.take_left] at h3
    refine ⟨us ++ [mkB (ts ++ us) (nodeAt ns k)], by rw [← List.append_assoc]; exact h3, ?_⟩
    rw [← List.append_assoc, getD_last _ _ _ _ hl.symm, mkB, h2, ← hx]
    cases x; rfl
theorem branchF_of (ns : List S73) (m : Nat) (x : S47) (hn : ns.length ≤ 200) (h0 : 0 < ns.length) (h : TrS ns m 0 (ns.length - 1) x) : branchF ns ((ns.length : Int) - 1) = some x := by
  obtain ⟨us, h1, h2⟩ := TrS_load ns m 0 _ x [] [] h rfl
  rw [Nat.sub_add_cancel h0] at h1
  rw [branchF, if_neg (by omega), h1, Option.bind_some, if_pos (by simp; omega)]
  rw [show ((ns.length : Int) - 1).toNat = ns.length - 1 by omega]
  exact congrArg some h2
/-! #### keys in order -/
def Sor (lo hi : Int) (l : List Int) : Prop := List.Pairwise (· < ·) l ∧ ∀ k, k ∈ l → lo < k ∧ k < hi
theorem Sor_nil (lo hi : Int) : Sor lo hi [] := ⟨List.Pairwise.nil, fun _ h => absurd h List.not_mem_nil⟩
theorem Sor_cons {lo hi k : Int} {l : List Int} : Sor lo hi (k :: l) ↔ lo < k ∧ k < hi ∧ Sor k hi l ∧ lo < hi := by
  constructor
  · intro h
    have h1 := h.2 k List.mem_cons_self
    have h2 := List.pairwise_cons.mp h.1
    exact ⟨h1.1, h1.2, ⟨h2.2, fun q hq => ⟨h2.1 q hq, (h.2 q (List.mem_cons_of_mem _ hq)).2⟩⟩, Int.lt_trans h1.1 h1.2⟩
  · rintro ⟨h1, h2, h3, _⟩
    refine ⟨List.pairwise_cons.mpr ⟨fun q hq => (h3.2 q hq).1, h3.1⟩, fun q hq => ?_⟩
    rcases List.mem_cons.mp hq with rfl | hq
    · exact ⟨h1, h2⟩
    · exact ⟨Int.lt_trans h1 (h3.2 q hq).1, (h3.2 q hq).2⟩
theorem Sor_wide {lo hi lo' : Int} {l : List Int} (h : Sor lo hi l) (hl : lo' ≤ lo) : Sor lo' hi l := ⟨h.1, fun q hq => ⟨Int.lt_of_le_of_lt hl (h.2 q hq).1, (h.2 q hq).2⟩⟩
theorem Sor_mid {lo hi k : Int} : ∀ {l r : List Int}, Sor lo hi (l ++ k :: r) ↔ Sor lo k l ∧ lo < k ∧ k < hi ∧ Sor k hi r := by
  intro l r
  constructor
  · intro h
    have h1 := List.pairwise_append.mp h.1
    have h2 := List.pairwise_cons.mp h1.2.1
    have hk := h.2 k (by simp)
    exact ⟨⟨h1.1, fun q hq => ⟨(h.2 q (by simp [hq])).1, h1.2.2 q hq k (by simp)⟩⟩, hk.1, hk.2, ⟨h2.2, fun q hq => ⟨h2.1 q hq, (h.2 q (by simp [hq])).2⟩⟩⟩
  · rintro ⟨h1, h2, h3, h4⟩
    refine ⟨List.pairwise_append.mpr ⟨h1.1, List.pairwise_cons.mpr ⟨fun q hq => (h4.2 q hq).1, h4.1⟩, fun a ha b hb => ?_⟩, fun q hq => ?_⟩
    · rcases List.mem_cons.mp hb with rfl | hb
      · exact (h1.2 a ha).2
      · exact Int.lt_trans (h1.2 a ha).2 (h4.2 b hb).1
    · rcases List.mem_append.mp hq with hq | hq
      · exact ⟨(h1.2 q hq).1, Int.lt_trans (h1.2 q hq).2 h3⟩
      · rcases List.mem_cons.mp hq with rfl | hq
        · exact ⟨h2, h3⟩
        · exact ⟨Int.lt_trans h2 (h4.2 q hq).1, (h4.2 q hq).2⟩
theorem Sor_len : ∀ (l : List Int) (lo hi : Int), Sor lo hi l → l ≠ [] → (l.length : Int) + lo < hi
  | [], _, _, _, h => absurd rfl h
  | k :: l, lo, hi, h, _ => by
    obtain ⟨h1, h2, h3, _⟩ := Sor_cons.mp h
    rw [List.length_cons]
    cases l with
    | nil => simp; omega
    | cons y l =>
      have := Sor_len (y :: l) k hi h3 (by simp)
      omega
/-! #### a node's keys between its kids' -/
def inter : List Int → List (List Int) → List Int
  | _, [] => []
  | [], l :: ls => l ++ inter [] ls
  | k :: ks, l :: ls => l ++ k :: inter ks ls
theorem inter_sor : ∀ (ks : List Int) (ls : List (List Int)) (lo hi : Int), ls.length = ks.length + 1 →
    (Sor lo hi (inter ks ls) ↔ (∀ i, i < ks.length → lo < ks.getD i 0 ∧ ks.getD i 0 < hi ∧ (i = 0 ∨ ks.getD (i - 1) 0 < ks.getD i 0)) ∧ ∀ i, i < ls.length → Sor (if i = 0 then lo else ks.getD (i - 1) 0) (if i < ks.length then ks.getD i 0 else hi) (ls.getD i []))
  | [], ls, lo, hi, h => by
    obtain ⟨l, rfl⟩ := List.length_eq_one_iff.mp h
    simp [inter]
  | k :: ks, ls, lo, hi, h => by
    cases ls with
    | nil => cases h
    | cons l ls =>
      have hl : ls.length = ks.length + 1 := by simpa using h
      rw [inter, Sor_mid, inter_sor ks ls k hi hl]
      constructor
      · rintro ⟨h1, h2, h3, h4, h5⟩
        constructor
        · intro i hi2
          cases i with
          | zero => exact ⟨h2, h3, .inl rfl⟩
          | succ i =>
            have h6 := h4 i (by simpa using hi2)
            rw [List.getD_cons_succ]
            refine ⟨Int.lt_trans h2 h6.1, h6.2.1, .inr ?_⟩
            cases i with
            | zero => exact h6.1
            | succ i => rcases h6.2.2 with h7 | h7
                        · cases h7
                        · exact h7
        · intro i hi2
          cases i with
          | zero => simpa using h1
          | succ i =>
            have h6 := h5 i (by simpa using hi2)
            rw [List.getD_cons_succ, if_neg (Nat.succ_ne_zero i)]
            cases i with
            | zero =>
              by_cases hk : 0 < ks.length
              · rw [if_pos hk] at h6
                rw [if_pos (by rw [List.length_cons]; omega)]
                exact h6
              · rw [if_neg hk] at h6
                rw [if_neg (by rw [List.length_cons]; omega)]
                exact h6
            | succ i =>
              rw [if_neg (Nat.succ_ne_zero i)] at h6
              by_cases hk : i + 1 < ks.length
              · rw [if_pos hk] at h6
                rw [if_pos (by rw [List.length_cons]; omega)]
                exact h6
              · rw [if_neg hk] at h6
                rw [if_neg (by rw [List.length_cons]; omega)]
                exact h6
      · rintro ⟨h1, h2⟩
        have h0 := h1 0 (by simp)
        refine ⟨by simpa using h2 0 (by simp), h0.1, h0.2.1, fun i hi2 => ?_, fun i hi2 => ?_⟩
        · have h3 := h1 (i + 1) (by simpa using hi2)
          rw [List.getD_cons_succ] at h3
          refine ⟨?_, h3.2.1, ?_⟩
          · clear h2
            induction i with
            | zero =>
              rcases h3.2.2 with h4 | h4
              · cases h4
              · exact h4
            | succ i ih =>
              have h5 := h1 (i + 1) (by simp; omega)
              rw [List.getD_cons_succ] at h5
              refine Int.lt_trans (ih (by have := hi2; omega) h5) ?_
              rcases h3.2.2 with h4 | h4
              · cases h4
              · exact h4
          · cases i with
            | zero => exact .inl rfl
            | succ i => rcases h3.2.2 with h4 | h4
                        · cases h4
                        · exact .inr h4
        · have h3 := h2 (i + 1) (by simpa using hi2)
          rw [List.getD_cons_succ, if_neg (Nat.succ_ne_zero i)] at h3
          have e1 : (k :: ks).getD (i + 1 - 1) 0 = (if i = 0 then k else ks.getD (i - 1) 0) := by
            cases i with
            | zero => rfl
            | succ i => rfl
          have e2 : (if i + 1 < (k :: ks).length then ks.getD i 0 else hi) = (if i < ks.length then ks.getD i 0 else hi) := by
            by_cases hk : i < ks.length
            · rw [if_pos hk, if_pos (by rw [List.length_cons]; omega)]
            · rw [if_neg hk, if_neg (by rw [List.length_cons]; omega)]
          rw [e1, e2] at h3
          exact h3
theorem preF_inter (g : S47 → List Int) (x : S47) (hz : x.f1.length ≠ 0) : ∀ (j i : Nat), i + j = x.f0.length → x.f1.length = x.f0.length + 1 → preF g x x.f0.length ++ g (kidF x x.f0.length) = preF g x i ++ inter (x.f0.drop i) ((x.f1.drop i).map g)
  | 0, i, h, h2 => by
    obtain rfl : i = x.f0.length := by omega
    have : x.f1.drop x.f0.length = [kidF x x.f0.length] := by
      rw [List.drop_eq_getElem_cons (by omega), List.drop_eq_nil_of_le (by omega)]
      simp [kidF, List.getD_eq_getElem?_getD, List.getElem?_eq_getElem (show x.f0.length < x.f1.length by omega)]
    rw [this, List.drop_length]
    simp [inter]
  | j + 1, i, h, h2 => by
    have e1 : x.f0.drop i = x.f0.getD i 0 :: x.f0.drop (i + 1) := by
      rw [List.drop_eq_getElem_cons (by omega)]
      simp [List.getD_eq_getElem?_getD, List.getElem?_eq_getElem (show i < x.f0.length by omega)]
    have e2 : x.f1.drop i = kidF x i :: x.f1.drop (i + 1) := by
      rw [List.drop_eq_getElem_cons (by omega)]
      simp [kidF, List.getD_eq_getElem?_getD, List.getElem?_eq_getElem (show i < x.f1.length by omega)]
    rw [e1, e2, List.map_cons, inter, preF_inter g x hz j (i + 1) (by omega) h2, preF, if_neg hz]
    simp
theorem preF_leaf (g : S47 → List Int) (x : S47) (hz : x.f1.length = 0) : ∀ i, i ≤ x.f0.length → preF g x i = x.f0.take i
  | 0, _ => by simp [preF]
  | i + 1, h => by
    rw [preF, if_pos hz, preF_leaf g x hz i (by omega), List.append_nil, List.getD_eq_getElem?_getD, List.getElem?_eq_getElem (show i < x.f0.length by omega), Option.getD_some, List.take_succ_eq_append_getElem (show i < x.f0.length by omega)]
theorem keysF_leaf (n : Nat) (x : S47) (hz : x.f1.length = 0) : keysF (n + 1) x = x.f0 := by
  rw [keysF, if_pos hz, List.append_nil, preF_leaf _ _ hz _ (Nat.le_refl _), List.take_length]
theorem keysF_inter (n : Nat) (x : S47) (h : x.f1.length = x.f0.length + 1) : keysF (n + 1) x = inter x.f0 (x.f1.map (keysF n)) := by
  rw [keysF, if_neg (by omega), preF_inter (keysF n) x (by omega) x.f0.length 0 (by omega) h]
  rfl
/-! #### so deep, with so many keys in each node -/
def Bal : Nat → Bool → S47 → Prop
  | 0, _, _ => False
  | d + 1, root, x => leastT x root ≤ (x.f0.length : Int) ∧ x.f0.length ≤ 5 ∧ ((d = 0 ∧ x.f1.length = 0) ∨ (d ≠ 0 ∧ x.f1.length = x.f0.length + 1 ∧ ∀ i, i < x.f1.length → Bal d false (kidF x i)))
theorem Bal_shape : ∀ (d : Nat) (root : Bool) (x : S47), Bal d root x → ShapeF d x
  | 0, _, _, h => h.elim
  | d + 1, _, _, h => by
    rcases h.2.2 with ⟨_, h⟩ | ⟨_, h, hk⟩
    · exact .inl h
    · exact .inr ⟨h, fun i hi => Bal_shape d false _ (hk i hi)⟩
theorem keysF_bal : ∀ (d n m : Nat) (root : Bool) (x : S47), Bal d root x → d ≤ n → d ≤ m → keysF n x = keysF m x
  | 0, _, _, _, _, h, _, _ => h.elim
  | d + 1, n, m, root, x, h, hn, hm => by
    obtain ⟨n, rfl⟩ : ∃ k, n = k + 1 := ⟨n - 1, by omega⟩
    obtain ⟨m, rfl⟩ : ∃ k, m = k + 1 := ⟨m - 1, by omega⟩
    rcases h.2.2 with ⟨_, h⟩ | ⟨_, h, hk⟩
    · rw [keysF_leaf _ _ h, keysF_leaf _ _ h]
    · rw [keysF_inter _ _ h, keysF_inter _ _ h]
      congr 1
      refine List.map_congr_left fun y hy => ?_
      obtain ⟨i, hi, rfl⟩ := List.getElem_of_mem hy
      have := hk i hi
      rw [show kidF x i = x.f1[i] by simp [kidF, List.getD_eq_getElem?_getD, List.getElem?_eq_getElem hi]] at this
      exact keysF_bal d n m false _ this (by omega) (by omega)
theorem depthF_bal : ∀ (d n : Nat) (root : Bool) (x : S47), Bal d root x → d ≤ n → d < 1000000 → depthF n x = (d : Int)
  | 0, _, _, _, h, _, _ => h.elim
  | d + 1, n, root, x, h, hn, hb => by
    obtain ⟨n, rfl⟩ : ∃ k, n = k + 1 := ⟨n - 1, by omega⟩
    rw [depthF]
    rcases h.2.2 with ⟨h0, h⟩ | ⟨h0, h, hk⟩
    · rw [if_pos h, h0]; rfl
    · rw [if_neg (by omega)]
      have := depthF_bal d n false _ (hk 0 (by omega)) (by omega) (by omega)
      rw [show x.f1.getD 0 z47 = kidF x 0 from rfl, this]
      unfold wrap64
      omega
theorem inter_nils : ∀ (ks : List Int), inter ks (List.replicate (ks.length + 1) []) = ks
  | [] => rfl
  | k :: ks => by
    rw [List.length_cons, List.replicate_succ, inter, inter_nils ks]
    rfl
theorem keyT_all (x : S47) (lo hi : Int) : (List.range x.f0.length).all (keyT x lo hi) = true ↔ ∀ i, i < x.f0.length → lo < x.f0.getD i 0 ∧ x.f0.getD i 0 < hi ∧ (i = 0 ∨ x.f0.getD (i - 1) 0 < x.f0.getD i 0) := by
  rw [List.all_eq_true]
  refine ⟨fun h i hi2 => ?_, fun h i hi2 => ?_⟩
  · have := h i (List.mem_range.mpr hi2)
    simpa [keyT, and_assoc] using this
  · have := h i (List.mem_range.mp hi2)
    simpa [keyT, and_assoc] using this
theorem keys_leaf_sor (ks : List Int) (lo hi : Int) : Sor lo hi ks ↔ ∀ i, i < ks.length → lo < ks.getD i 0 ∧ ks.getD i 0 < hi ∧ (i = 0 ∨ ks.getD (i - 1) 0 < ks.getD i 0) := by
  have h := inter_sor ks (List.replicate (ks.length + 1) []) lo hi (by simp)
  rw [inter_nils] at h
  rw [h]
  refine ⟨fun q => q.1, fun q => ⟨q, fun i hi2 => ?_⟩⟩
  rw [show (List.replicate (ks.length + 1) ([] : List Int)).getD i [] = [] by
    rw [List.getD_eq_getElem?_getD]
    cases h : (List.replicate (ks.length + 1) ([] : List Int))[i]? with
    | none => rfl
    | some y => exact List.eq_of_mem_replicate (List.mem_of_getElem? h)]
  exact Sor_nil _ _
theorem goodT_iff : ∀ (n : Nat) (x : S47) (lo hi d : Int) (root : Bool), -4611686018427387904 + (n : Int) ≤ d → d ≤ 4611686018427387904 → (goodT n x lo hi d root = true ↔ ∃ e : Nat, d = (e : Int) ∧ e ≤ n ∧ Bal e root x ∧ Sor lo hi (keysF n x))
  | 0, x, lo, hi, d, root, _, _ => by
    constructor
    · intro h; cases h
    · rintro ⟨e, _, he, hb, _⟩
      obtain rfl : e = 0 := by omega
      exact hb.elim
  | n + 1, x, lo, hi, d, root, h1, h2 => by
    have hw : wrap64 (d - 1) = d - 1 := by unfold wrap64; omega
    rw [goodT, Bool.and_eq_true, Bool.and_eq_true, keyT_all, hw]
    have hkid : ((List.range x.f1.length).all fun i => goodT n (kidF x i) (fromT x lo i) (toT x hi i) (d - 1) false) = true ↔ ∀ i, i < x.f1.length → ∃ e : Nat, d - 1 = (e : Int) ∧ e ≤ n ∧ Bal e false (kidF x i) ∧ Sor (fromT x lo i) (toT x hi i) (keysF n (kidF x i)) := by
      rw [List.all_eq_true]
      refine ⟨fun h i hi2 => (goodT_iff n _ _ _ _ _ (by omega) (by omega)).mp (h i (List.mem_range.mpr hi2)), fun h i hi2 => (goodT_iff n _ _ _ _ _ (by omega) (by omega)).mpr (h i (List.mem_range.mp hi2))⟩
    rw [hkid]
    have htop : topT x d root = true ↔ leastT x root ≤ (x.f0.length : Int) ∧ x.f0.length ≤ 5 ∧ (x.f1.length = 0 ↔ d = 1) ∧ (x.f1.length = 0 ∨ x.f1.length = x.f0.length + 1) := by
      simp [topT, and_assoc]
    rw [htop]
    by_cases hz : x.f1.length = 0
    · rw [keysF_leaf n x hz, keys_leaf_sor]
      constructor
      · rintro ⟨⟨g1, g2, g3, _⟩, g4, _⟩
        have := g3.mp hz
        exact ⟨1, by omega, by omega, ⟨g1, g2, .inl ⟨rfl, hz⟩⟩, g4⟩
      · rintro ⟨e, g1, g2, g3, g4⟩
        cases e with
        | zero => exact g3.elim
        | succ e =>
          rcases g3.2.2 with ⟨g5, _⟩ | ⟨_, g5, _⟩
          · exact ⟨⟨g3.1, g3.2.1, ⟨fun _ => by omega, fun _ => hz⟩, .inl hz⟩, g4, fun i hi2 => by omega⟩
          · omega
    · constructor
      · rintro ⟨⟨g1, g2, g3, g6⟩, g4, g5⟩
        have g7 : x.f1.length = x.f0.length + 1 := by omega
        obtain ⟨e, e1, e2, e3, _⟩ := g5 0 (by omega)
        have he0 : e ≠ 0 := by
          rintro rfl
          exact e3.elim
        refine ⟨e + 1, by omega, by omega, ⟨g1, g2, .inr ⟨he0, g7, fun i hi2 => ?_⟩⟩, ?_⟩
        · obtain ⟨e', e1', _, e3', _⟩ := g5 i hi2
          obtain rfl : e' = e := by omega
          exact e3'
        · rw [keysF_inter n x g7, inter_sor _ _ _ _ (by rw [List.length_map]; exact g7)]
          refine ⟨g4, fun i hi2 => ?_⟩
          rw [List.length_map] at hi2
          rw [getD_map x.f1 (keysF n) i [] z47 hi2]
          obtain ⟨_, _, _, _, e4⟩ := g5 i hi2
          exact e4
      · rintro ⟨e, g1, g2, g3, g4⟩
        cases e with
        | zero => exact g3.elim
        | succ e =>
          rcases g3.2.2 with ⟨_, g5⟩ | ⟨g5, g6, g7⟩
          · omega
          · rw [keysF_inter n x g6, inter_sor _ _ _ _ (by rw [List.length_map]; exact g6)] at g4
            refine ⟨⟨g3.1, g3.2.1, ⟨fun h => absurd h hz, fun h => by omega⟩, .inr g6⟩, g4.1, fun i hi2 => ⟨e, by omega, by omega, g7 i hi2, ?_⟩⟩
            have := g4.2 i (by rw [List.length_map]; exact hi2)
            rw [getD_map x.f1 (keysF n) i [] z47 hi2] at this
            exact this
/-! #### how deep (spec) -/
def deepF : Nat → S47 → Bool → Nat
  | 0, _, _ => 0
  | m + 1, x, root => if leastT x root ≤ (x.f0.length : Int) ∧ x.f0.length ≤ 5 then (if x.f1.length = 0 then 1 else if deepF m (kidF x 0) false ≠ 0 ∧ ∀ i, i < x.f1.length → deepF m (kidF x i) false = deepF m (kidF x 0) false then deepF m (kidF x 0) false + 1 else 0) else 0
theorem deepF_bal : ∀ (m : Nat) (x : S47) (root : Bool), ShapeF m x → deepF m x root ≠ 0 → Bal (deepF m x root) root x ∧ deepF m x root ≤ m
  | 0, _, _, h, _ => h.elim
  | m + 1, x, root, hs, h => by
    rw [deepF] at h ⊢
    by_cases hk : leastT x root ≤ (x.f0.length : Int) ∧ x.f0.length ≤ 5
    · rw [if_pos hk] at h ⊢
      by_cases hz : x.f1.length = 0
      · rw [if_pos hz]
        exact ⟨⟨hk.1, hk.2, .inl ⟨rfl, hz⟩⟩, by omega⟩
      · rw [if_neg hz] at h ⊢
        by_cases hd : deepF m (kidF x 0) false ≠ 0 ∧ ∀ i, i < x.f1.length → deepF m (kidF x i) false = deepF m (kidF x 0) false
        · rw [if_pos hd]
          rcases hs with hs | ⟨hs, hsk⟩
          · exact absurd hs hz
          · have h0 := deepF_bal m (kidF x 0) false (hsk 0 (by omega)) hd.1
            refine ⟨⟨hk.1, hk.2, .inr ⟨hd.1, hs, fun i hi => ?_⟩⟩, by omega⟩
            have h1 := deepF_bal m (kidF x i) false (hsk i hi) (by rw [hd.2 i hi]; exact hd.1)
            rw [hd.2 i hi] at h1
            exact h1.1
        · rw [if_neg hd] at h
          exact absurd rfl h
    · rw [if_neg hk] at h
      exact absurd rfl h
theorem bal_deepF : ∀ (m d : Nat) (x : S47) (root : Bool), Bal d root x → d ≤ m → deepF m x root = d
  | _, 0, _, _, h, _ => h.elim
  | 0, d + 1, _, _, _, h => by omega
  | m + 1, d + 1, x, root, h, hd => by
    rw [deepF, if_pos ⟨h.1, h.2.1⟩]
    rcases h.2.2 with ⟨h0, h⟩ | ⟨h0, h, hk⟩
    · rw [if_pos h, h0]
    · rw [if_neg (by omega)]
      have he : ∀ i, i < x.f1.length → deepF m (kidF x i) false = d := fun i hi => bal_deepF m d _ false (hk i hi) (by omega)
      rw [if_pos ⟨by rw [he 0 (by omega)]; exact h0, fun i hi => by rw [he i hi, he 0 (by omega)]⟩, he 0 (by omega)]
theorem ShapeF_bal : ∀ (m d : Nat) (x : S47) (root : Bool), Bal d root x → d ≤ m → ShapeF m x
  | _, 0, _, _, h, _ => h.elim
  | 0, d + 1, _, _, _, h => by omega
  | m + 1, d + 1, x, root, h, hd => by
    rcases h.2.2 with ⟨h0, h⟩ | ⟨h0, h, hk⟩
    · exact .inl h
    · exact .inr ⟨h, fun i hi => ShapeF_bal m d _ false (hk i hi) (by omega)⟩
/-! #### reading (spec) -/
def readL (g : Int → Option (S47 × Int)) (qs : List Int) (k : Int) : Nat → Option (List S47 × Int)
  | 0 => some ([], k)
  | s + 1 => (readL g qs k s).bind fun p => if qs.getD (qs.length - (s + 1)) 0 = p.2 - 1 then (g (qs.getD (qs.length - (s + 1)) 0)).map fun r => (r.1 :: p.1, r.2) else none
def readF (ns : List S73) : Nat → Int → Option (S47 × Int)
  | 0, _ => none
  | m + 1, k => if 0 ≤ k ∧ k < (ns.length : Int) then (if (nodeAt ns k.toNat).f0 = true then (if (nodeAt ns k.toNat).f2.length = 0 then some (⟨(nodeAt ns k.toNat).f1, []⟩, k) else none) else if (nodeAt ns k.toNat).f2.length = (nodeAt ns k.toNat).f1.length + 1 then (readL (readF ns m) (nodeAt ns k.toNat).f2 k (nodeAt ns k.toNat).f2.length).map (fun p => (⟨(nodeAt ns k.toNat).f1, p.1⟩, p.2)) else none) else none
theorem readL_fo (ns : List S73) (m : Nat) (g : Int → Option (S47 × Int)) (hg : ∀ q y f, g q = some (y, f) → ∃ a k : Nat, q = (k : Int) ∧ f = (a : Int) ∧ TrS ns m a k y ∧ ShapeF m y) (qs : List Int) (k : Nat) : ∀ (s : Nat) (xs : List S47) (f : Int), s ≤ qs.length → readL g qs (k : Int) s = some (xs, f) → ∃ a : Nat, f = (a : Int) ∧ FoS (TrS ns m) a (qs.drop (qs.length - s)) k xs ∧ ∀ y, y ∈ xs → ShapeF m y
  | 0, xs, f, _, h => by
    cases h
    exact ⟨k, rfl, by rw [Nat.sub_zero, List.drop_length]; exact ⟨rfl, rfl⟩, fun y hy => absurd hy List.not_mem_nil⟩
  | s + 1, xs, f, hs, h => by
    rw [readL] at h
    cases h0 : readL g qs (k : Int) s with
    | none => rw [h0] at h; cases h
    | some p =>
      obtain ⟨ys, f0⟩ := p
      rw [h0, Option.bind_some] at h
      obtain ⟨a0, ha0, hf, hsh⟩ := readL_fo ns m g hg qs k s ys f0 (by omega) h0
      by_cases hq : qs.getD (qs.length - (s + 1)) 0 = f0 - 1
      · rw [if_pos hq] at h
        cases hr : g (qs.getD (qs.length - (s + 1)) 0) with
        | none => rw [hr] at h; cases h
        | some r =>
          obtain ⟨y, f1⟩ := r
          rw [hr, Option.map_some] at h
          cases h
          obtain ⟨a, k', e1, e2, e3, e4⟩ := hg _ _ _ hr
          have hk : k' + 1 = a0 := by omega
          refine ⟨a, e2, ?_, ?_⟩
          · have e5 : qs.drop (qs.length - (s + 1)) = (k' : Int) :: qs.drop (qs.length - s) := by
              rw [List.drop_eq_getElem_cons (by omega), ← e1, List.getD_eq_getElem?_getD, List.getElem?_eq_getElem (by omega), Option.getD_some, show qs.length - (s + 1) + 1 = qs.length - s by omega]
            rw [e5]
            exact ⟨k', y, ys, rfl, rfl, e3, by rw [hk]; exact hf⟩
          · intro z hz
            rcases List.mem_cons.mp hz with rfl | hz
            · exact e4
            · exact hsh z hz
      · rw [if_neg hq] at h; cases h
theorem readF_tr (ns : List S73) : ∀ (m : Nat) (k : Int) (x : S47) (f : Int), readF ns m k = some (x, f) → ∃ a k' : Nat, k = (k' : Int) ∧ f = (a : Int) ∧ TrS ns m a k' x ∧ ShapeF m x
  | 0, _, _, _, h => by cases h
  | m + 1, k, x, f, h => by
    rw [readF] at h
    by_cases hk : 0 ≤ k ∧ k < (ns.length : Int)
    · rw [if_pos hk] at h
      obtain ⟨k', rfl⟩ : ∃ k' : Nat, k = (k' : Int) := ⟨k.toNat, by omega⟩
      rw [Int.toNat_natCast] at h
      by_cases hl : (nodeAt ns k').f0 = true
      · rw [if_pos hl] at h
        by_cases hz : (nodeAt ns k').f2.length = 0
        · rw [if_pos hz] at h
          cases h
          refine ⟨k', k', rfl, rfl, ⟨by omega, rfl, by rw [hl, decide_eq_true hz], ?_⟩, .inl rfl⟩
          rw [List.eq_nil_of_length_eq_zero hz]
          exact ⟨rfl, rfl⟩
        · rw [if_neg hz] at h; cases h
      · rw [if_neg hl] at h
        by_cases hz : (nodeAt ns k').f2.length = (nodeAt ns k').f1.length + 1
        · rw [if_pos hz] at h
          cases hr : readL (readF ns m) (nodeAt ns k').f2 (k' : Int) (nodeAt ns k').f2.length with
          | none => rw [hr] at h; cases h
          | some p =>
            obtain ⟨xs, f1⟩ := p
            rw [hr, Option.map_some] at h
            cases h
            obtain ⟨a, ha, hf, hsh⟩ := readL_fo ns m (readF ns m) (fun q y f => readF_tr ns m q y f) _ k' _ _ _ (Nat.le_refl _) hr
            rw [Nat.sub_self, List.drop_zero] at hf
            have hlen := FoS_len _ _ _ _ hf
            refine ⟨a, k', rfl, ha, ⟨by omega, rfl, by rw [decide_eq_false (by omega)]; exact Bool.eq_false_iff.mpr hl, hf⟩, .inr ⟨by rw [hlen]; exact hz, fun i hi => hsh _ ?_⟩⟩
            exact getD_mem _ _ _ hi
        · rw [if_neg hz] at h; cases h
    · rw [if_neg hk] at h; cases h
theorem fo_readL (P : Nat → Nat → S47 → Prop) (g : Int → Option (S47 × Int)) (qs : List Int) (k : Nat) : ∀ (r : List Int) (q1 : List Int) (a : Nat) (xs : List S47), qs = q1 ++ r → FoS P a r k xs → (∀ a q y, y ∈ xs → P a q y → g (q : Int) = some (y, (a : Int))) → readL g qs (k : Int) r.length = some (xs, (a : Int))
  | [], q1, a, xs, _, h, _ => by
    obtain ⟨rfl, rfl⟩ := h
    rfl
  | q :: r, q1, a, xs, hq, h, hg => by
    obtain ⟨k', y, ys, rfl, rfl, hp, hf⟩ := h
    have ih := fo_readL P g qs k r (q1 ++ [(k' : Int)]) (k' + 1) ys (by rw [hq, List.append_assoc]; rfl) hf (fun a q y hy => hg a q y (List.mem_cons_of_mem _ hy))
    have e1 : qs.getD (qs.length - (r.length + 1)) 0 = (k' : Int) := by
      rw [hq, List.length_append, List.length_cons, Nat.add_sub_cancel, List.getD_eq_getElem?_getD, List.getElem?_append_right (Nat.le_refl _), Nat.sub_self]
      rfl
    rw [List.length_cons, readL, ih, Option.bind_some, e1, if_pos (by omega), hg a k' y List.mem_cons_self hp]
    rfl
theorem tr_readF (ns : List S73) : ∀ (m a k : Nat) (x : S47), TrS ns m a k x → ShapeF m x → readF ns m (k : Int) = some (x, (a : Int))
  | 0, _, _, _, h, _ => h.elim
  | m + 1, a, k, x, h, hs => by
    obtain ⟨hk, hx, hl, hf⟩ := h
    have hlen := FoS_len _ _ _ _ hf
    rw [readF, if_pos (by omega), Int.toNat_natCast]
    rcases hs with hs | ⟨hs, hsk⟩
    · have hz : (nodeAt ns k).f2.length = 0 := by omega
      rw [decide_eq_true hz] at hl
      rw [if_pos hl, if_pos hz]
      rw [List.eq_nil_of_length_eq_zero hz] at hf
      obtain ⟨rfl, he⟩ := hf
      rw [← hx]
      cases x
      cases he
      rfl
    · have hz : (nodeAt ns k).f2.length ≠ 0 := by omega
      rw [decide_eq_false hz] at hl
      rw [if_neg (by rw [hl]; decide), if_pos (by rw [← hx]; omega)]
      rw [fo_readL (TrS ns m) (readF ns m) (nodeAt ns k).f2 k (nodeAt ns k).f2 [] a x.f1 (by rw [List.nil_append]) hf (fun a q y hy hp => tr_readF ns m a q y hp ?_), Option.map_some, ← hx]
      · cases x; rfl
      · obtain ⟨i, hi, rfl⟩ := List.getElem_of_mem hy
        have := hsk i hi
        rw [show kidF x i = x.f1[i] by simp [kidF, List.getD_eq_getElem?_getD, List.getElem?_eq_getElem hi]] at this
        exact this
/-! #### counts -/
theorem inter_len : ∀ (ks : List Int) (ls : List (List Int)), ls.length = ks.length + 1 → (inter ks ls).length = ks.length + (ls.map List.length).sum
  | [], ls, h => by
    obtain ⟨l, rfl⟩ := List.length_eq_one_iff.mp h
    simp [inter]
  | k :: ks, ls, h => by
    cases ls with
    | nil => cases h
    | cons l ls =>
      rw [inter, List.length_append, List.length_cons, inter_len ks ls (by simpa using h), List.map_cons, List.sum_cons, List.length_cons]
      omega
theorem sum_ge (g : S47 → Nat) (b : Nat) : ∀ (xs : List S47), (∀ y, y ∈ xs → b ≤ g y) → xs.length * b ≤ (xs.map g).sum
  | [], _ => by simp
  | x :: xs, h => by
    have h1 := h x List.mem_cons_self
    have h2 := sum_ge g b xs (fun y hy => h y (List.mem_cons_of_mem _ hy))
    rw [List.length_cons, List.map_cons, List.sum_cons, Nat.succ_mul]
    omega
theorem mem_kid {x : S47} {y : S47} (h : y ∈ x.f1) : ∃ i, i < x.f1.length ∧ kidF x i = y := by
  obtain ⟨i, hi, rfl⟩ := List.getElem_of_mem h
  exact ⟨i, hi, by simp [kidF, List.getD_eq_getElem?_getD, List.getElem?_eq_getElem hi]⟩
theorem keysF_sum (n : Nat) (x : S47) (h : x.f1.length = x.f0.length + 1) : (keysF (n + 1) x).length = x.f0.length + (x.f1.map fun y => (keysF n y).length).sum := by
  rw [keysF_inter n x h, inter_len _ _ (by rw [List.length_map]; exact h), List.map_map]
  rfl
theorem keys_pow : ∀ (d n : Nat) (x : S47), Bal d false x → d ≤ n → 2 ^ d ≤ (keysF n x).length
  | 0, _, _, h, _ => h.elim
  | d + 1, n, x, h, hn => by
    obtain ⟨n, rfl⟩ : ∃ k, n = k + 1 := ⟨n - 1, by omega⟩
    have hl : 2 ≤ x.f0.length := by have := h.1; simp [leastT] at this; omega
    rcases h.2.2 with ⟨h0, hz⟩ | ⟨h0, hz, hk⟩
    · rw [keysF_leaf n x hz, h0]
      exact hl
    · rw [keysF_sum n x hz]
      have h1 := sum_ge (fun y => (keysF n y).length) (2 ^ d) x.f1 (fun y hy => by
        obtain ⟨i, hi, rfl⟩ := mem_kid hy
        exact keys_pow d n _ (hk i hi) (by omega))
      have h2 : 2 * 2 ^ d ≤ x.f1.length * 2 ^ d := Nat.mul_le_mul_right _ (by omega)
      rw [Nat.pow_succ]
      omega
theorem FoS_cnt {P : Nat → Nat → S47 → Prop} {g : S47 → Nat} : ∀ (qs : List Int) (a e : Nat) (xs : List S47), (∀ a k y, y ∈ xs → P a k y → a ≤ k ∧ 2 * (k + 1) ≤ g y + 2 * a) → FoS P a qs e xs → a ≤ e ∧ 2 * e ≤ (xs.map g).sum + 2 * a
  | [], a, e, xs, _, h => by
    obtain ⟨rfl, rfl⟩ := h
    simp
  | q :: qs, a, e, xs, hg, h => by
    obtain ⟨k, y, ys, _, rfl, hp, hf⟩ := h
    have h1 := hg a k y List.mem_cons_self hp
    have h2 := FoS_cnt qs (k + 1) e ys (fun a k y hy => hg a k y (List.mem_cons_of_mem _ hy)) hf
    rw [List.map_cons, List.sum_cons]
    omega
theorem nodes_le (ns : List S73) : ∀ (d m n a k : Nat) (x : S47) (root : Bool), TrS ns m a k x → Bal d root x → d ≤ n → 2 * (k + 1) ≤ (keysF n x).length + 2 * a + (if root = true then 2 else 0)
  | 0, _, _, _, _, _, _, _, h, _ => h.elim
  | d + 1, 0, _, _, _, _, _, h, _, _ => h.elim
  | d + 1, m + 1, n, a, k, x, root, ht, h, hn => by
    obtain ⟨n, rfl⟩ : ∃ k, n = k + 1 := ⟨n - 1, by omega⟩
    have hl : 2 ≤ x.f0.length + (if root = true then 2 else 0) := by
      have := h.1
      cases root with
      | true => simp
      | false => simp [leastT] at this ⊢; omega
    obtain ⟨_, _, _, hf⟩ := ht
    rcases h.2.2 with ⟨h0, hz⟩ | ⟨h0, hz, hk⟩
    · rw [keysF_leaf n x hz]
      have hlen := FoS_len _ _ _ _ hf
      rw [List.eq_nil_of_length_eq_zero (show (nodeAt ns k).f2.length = 0 by omega)] at hf
      have := hf.1
      omega
    · rw [keysF_sum n x hz]
      have h1 := FoS_cnt (g := fun y => (keysF n y).length) _ _ _ _ (fun a k y hy hp => ⟨TrS_le ns m a k y hp, by
        obtain ⟨i, hi, rfl⟩ := mem_kid hy
        have := nodes_le ns d m n a k _ false hp (hk i hi) (by omega)
        simpa using this⟩) hf
      omega
theorem TrS_bal (ns : List S73) : ∀ (d m a k : Nat) (x : S47) (root : Bool), TrS ns m a k x → Bal d root x → TrS ns d a k x
  | 0, _, _, _, _, _, _, h => h.elim
  | d + 1, 0, _, _, _, _, h, _ => h.elim
  | d + 1, m + 1, a, k, x, root, ht, h => by
    obtain ⟨h1, h2, h3, hf⟩ := ht
    refine ⟨h1, h2, h3, FoS_impm _ _ _ _ (fun a k y hy hp => ?_) hf⟩
    obtain ⟨i, hi, rfl⟩ := mem_kid hy
    rcases h.2.2 with ⟨h0, hz⟩ | ⟨h0, hz, hk⟩
    · omega
    · exact TrS_bal ns d m a k _ false hp (hk i hi)
theorem bal_nodes (ns : List S73) : ∀ (d m a k : Nat) (x : S47) (root : Bool), TrS ns m a k x → Bal d root x → d + a ≤ k + 1
  | 0, _, _, _, _, _, _, h => h.elim
  | d + 1, 0, _, _, _, _, h, _ => h.elim
  | d + 1, m + 1, a, k, x, root, ht, h => by
    have hle := TrS_le ns _ _ _ _ ht
    obtain ⟨h1, h2, h3, hf⟩ := ht
    rcases h.2.2 with ⟨h0, hz⟩ | ⟨h0, hz, hk⟩
    · omega
    · have hlen := FoS_len _ _ _ _ hf
      cases hq : (nodeAt ns k).f2 with
      | nil => rw [hq, List.length_nil] at hlen; omega
      | cons q qs =>
        rw [hq] at hf
        obtain ⟨k', y, ys, _, e2, hp, hf2⟩ := hf
        have hy : kidF x 0 = y := by rw [kidF, e2]; rfl
        have h4 := bal_nodes ns d m a k' _ false hp (by rw [← hy]; exact hk 0 (by omega))
        have h5 := FoS_le (TrS_le ns m) _ _ _ _ hf2
        omega
theorem depthF_range : ∀ (n : Nat) (x : S47), n < 1000000 → 0 ≤ depthF n x ∧ depthF n x ≤ (n : Int)
  | 0, x, _ => ⟨Int.le_refl _, Int.le_refl _⟩
  | n + 1, x, h => by
    rw [depthF]
    by_cases hz : x.f1.length = 0
    · rw [if_pos hz]; omega
    · rw [if_neg hz]
      have := depthF_range n (x.f1.getD 0 z47) (by omega)
      unfold wrap64
      omega
/-! #### the same trees -/
def sorB (l : List Int) : Bool := (List.range l.length).all (keyT ⟨l, []⟩ (-1) 1000001)
theorem sorB_iff (l : List Int) : sorB l = true ↔ Sor (-1) 1000001 l := by
  rw [sorB, keys_leaf_sor]
  exact keyT_all ⟨l, []⟩ (-1) 1000001
def goodF (ns : List S73) (root : Int) : Option S47 := (branchF ns root).bind fun x => if goodT ns.length x (-1) 1000001 (depthF ns.length x) true = true ∧ (keysF ns.length x).length ≤ 200 then some x else none
def ofF (ns : List S73) (root : Int) : Option S47 := if root = (ns.length : Int) - 1 then (readF ns 20 root).bind fun p => if p.2 = 0 ∧ deepF 20 p.1 true ≠ 0 ∧ sorB (keysF 20 p.1) = true ∧ (keysF 20 p.1).length ≤ 200 then some p.1 else none else none
theorem depth_le (d n : Nat) (x : S47) (h : Bal d true x) (hn : d ≤ n) (hk : (keysF n x).length ≤ 200) : d ≤ 20 := by
  cases d with
  | zero => omega
  | succ d =>
    rcases h.2.2 with ⟨h0, _⟩ | ⟨h0, hz, hkid⟩
    · omega
    · obtain ⟨n, rfl⟩ : ∃ k, n = k + 1 := ⟨n - 1, by omega⟩
      rw [keysF_sum n x hz] at hk
      have h1 := sum_ge (fun y => (keysF n y).length) (2 ^ d) x.f1 (fun y hy => by
        obtain ⟨i, hi, rfl⟩ := mem_kid hy
        exact keys_pow d n _ (hkid i hi) (by omega))
      have h2 : 1 * 2 ^ d ≤ x.f1.length * 2 ^ d := Nat.mul_le_mul_right _ (by omega)
      rcases Nat.lt_or_ge d 20 with h3 | h3
      · omega
      · have : 2 ^ 20 ≤ 2 ^ d := Nat.pow_le_pow_right (by omega) h3
        omega
/-- what is known of a good tree -/
def Fine (ns : List S73) (root : Int) (x : S47) : Prop := ∃ d : Nat, ns.length ≤ 200 ∧ root = (ns.length : Int) - 1 ∧ 0 < ns.length ∧ d ≤ 20 ∧ d ≤ ns.length ∧ d ≠ 0 ∧ Bal d true x ∧ TrS ns d 0 (ns.length - 1) x ∧ Sor (-1) 1000001 (keysF d x) ∧ (keysF d x).length ≤ 200
theorem goodF_fine (ns : List S73) (root : Int) (x : S47) : goodF ns root = some x ↔ Fine ns root x := by
  constructor
  · intro h
    rw [goodF] at h
    cases hb : branchF ns root with
    | none => rw [hb] at h; cases h
    | some y =>
      rw [hb, Option.bind_some] at h
      by_cases hc : goodT ns.length y (-1) 1000001 (depthF ns.length y) true = true ∧ (keysF ns.length y).length ≤ 200
      · rw [if_pos hc] at h
        cases h
        obtain ⟨h1, h2, h3, h4⟩ := branchF_tr ns root x hb
        have hr := depthF_range ns.length x (by omega)
        obtain ⟨e, e1, e2, e3, e4⟩ := (goodT_iff _ _ _ _ _ _ (by omega) (by omega)).mp hc.1
        have hek := keysF_bal e e ns.length true x e3 (Nat.le_refl _) e2
        refine ⟨e, h1, h3, h2, depth_le e _ x e3 e2 hc.2, e2, ?_, e3, TrS_bal ns e _ _ _ x true h4 e3, by rw [hek]; exact e4, by rw [hek]; exact hc.2⟩
        rintro rfl
        exact e3.elim
      · rw [if_neg hc] at h; cases h
  · rintro ⟨d, h1, h2, h3, h4, h5, h6, h7, h8, h9, h10⟩
    have hek := keysF_bal d d ns.length true x h7 (Nat.le_refl _) h5
    rw [goodF, h2, branchF_of ns d x h1 h3 h8, Option.bind_some, if_pos]
    refine ⟨(goodT_iff _ _ _ _ _ _ ?_ ?_).mpr ⟨d, depthF_bal d _ true x h7 h5 (by omega), h5, h7, by rw [← hek]; exact h9⟩, by rw [← hek]; exact h10⟩
    · have := depthF_range ns.length x (by omega)
      omega
    · have := depthF_range ns.length x (by omega)
      omega
theorem ofF_fine (ns : List S73) (root : Int) (x : S47) : ofF ns root = some x ↔ Fine ns root x := by
  constructor
  · intro h
    rw [ofF] at h
    by_cases hr : root = (ns.length : Int) - 1
    · rw [if_pos hr] at h
      cases hb : readF ns 20 root with
      | none => rw [hb] at h; cases h
      | some p =>
        obtain ⟨y, f⟩ := p
        rw [hb, Option.bind_some] at h
        by_cases hc : f = 0 ∧ deepF 20 y true ≠ 0 ∧ sorB (keysF 20 y) = true ∧ (keysF 20 y).length ≤ 200
        · rw [if_pos hc] at h
          obtain rfl : y = x := Option.some.inj h
          obtain ⟨a, k, e1, e2, e3, e4⟩ := readF_tr ns 20 root y f hb
          obtain ⟨c1, c2, c3, c4⟩ := hc
          obtain ⟨d1, d2⟩ := deepF_bal 20 y true e4 c2
          have ha : a = 0 := by omega
          subst ha
          have hk : k = ns.length - 1 := by omega
          have hkn : 0 < ns.length := by omega
          rw [hk] at e3
          have hek := keysF_bal _ (deepF 20 y true) 20 true y d1 (Nat.le_refl _) d2
          have hn := nodes_le ns _ 20 20 0 _ y true e3 d1 d2
          have hd := bal_nodes ns _ 20 0 _ y true e3 d1
          refine ⟨deepF 20 y true, ?_, hr, hkn, d2, by omega, c2, d1, TrS_bal ns _ _ _ _ y true e3 d1, by rw [hek]; exact (sorB_iff _).mp c3, by rw [hek]; exact c4⟩
          simp at hn
          omega
        · rw [if_neg hc] at h; cases h
    · rw [if_neg hr] at h; cases h
  · rintro ⟨d, h1, h2, h3, h4, h5, h6, h7, h8, h9, h10⟩
    have hek := keysF_bal d d 20 true x h7 (Nat.le_refl _) h4
    have hrd := tr_readF ns 20 0 (ns.length - 1) x (TrS_mono ns h4 h8) (ShapeF_bal 20 d x true h7 h4)
    rw [ofF, if_pos h2, h2, show (ns.length : Int) - 1 = ((ns.length - 1 : Nat) : Int) by omega, hrd, Option.bind_some, if_pos]
    exact ⟨rfl, by rw [bal_deepF 20 d x true h7 h4]; exact h6, (sorB_iff _).mpr (by rw [← hek]; exact h9), by rw [← hek]; exact h10⟩
theorem good_of (ns : List S73) (root : Int) : goodF ns root = ofF ns root := by
  cases h : ofF ns root with
  | some x => exact (goodF_fine ns root x).mpr ((ofF_fine ns root x).mp h)
  | none =>
    cases h2 : goodF ns root with
    | none => rfl
    | some x => rw [(ofF_fine ns root x).mpr ((goodF_fine ns root x).mp h2)] at h; cases h
/-! #### goodBranch -/
theorem RepB_ptr : ∀ {n : Nat} {w : World} {x : S47} {v : Value}, RepB n w x v → ∃ g, v = .pointer (some ⟨g, 0, none⟩)
  | 0, _, _, _, h => h.elim
  | _ + 1, _, _, _, h => by
    obtain ⟨g, _, _, _, _, e, _⟩ := h
    exact ⟨g, e⟩
def GoodOut (r : Option S47) (n : Nat) (e : Ending) (w' : World) : Prop := ∃ v b, e = .returned (.tuple #[v, .bool b]) ∧ ((r = none ∧ b = false) ∨ ∃ x, r = some x ∧ b = true ∧ RepB n w' x v)
theorem good_facts (n : Nat) (x : S47) (hn : n ≤ 200) (h : goodT n x (-1) 1000001 (depthF n x) true = true) : ShapeF n x ∧ (keysF n x).length < 1099511627776 := by
  have hr := depthF_range n x (by omega)
  obtain ⟨e, e1, e2, e3, e4⟩ := (goodT_iff _ _ _ _ _ _ (by omega) (by omega)).mp h
  refine ⟨ShapeF_bal n e x true e3 e2, ?_⟩
  by_cases hz : keysF n x = []
  · rw [hz]; decide
  · have := Sor_len _ _ _ e4 hz
    omega
set_option maxHeartbeats 4000000 in
theorem goodbr_walk (A : Option Addr) (c : Nat) (ns : List S73) (root : Int) (w : World) (hr : Kd.C k73 w A ns.length ns) (hc : ns.length ≤ c) (hsz : ∀ i, (nodeAt ns i).f1.length < 1099511627776 ∧ (nodeAt ns i).f2.length < 1099511627776) : Calls Try.prog 25 #[.agg #[.slice A ns.length c, .int .i64 root]] w fun e w' => GoodOut (goodF ns root) ns.length e w' ∧ Below w.heap.size w w' := by
  have BR : Aside0 (∀ W : World, Below w.heap.size w W → Calls Try.prog 39 #[.agg #[.slice A ns.length c, .int .i64 root]] W fun e w' => BranchOut ns root e w' ∧ Below W.heap.size W w') := ⟨fun W hb => branch_walk A c ns root W (Kd.C_below hr hb) hc hsz⟩
  have HB := Aside0.mk (Below.refl w.heap.size w)
  clear hr hc hsz
  have HBT := Aside0.mk (branchF_tr ns root)
  cases hbr : branchF ns root with
  | none =>
    have BRN : Aside0 (∀ W : World, Below w.heap.size w W → Calls Try.prog 39 #[.agg #[.slice A ns.length c, .int .i64 root]] W fun e w' => e = .returned (.tuple #[.pointer none, .bool false]) ∧ Below W.heap.size W w') := ⟨fun W hb => (BR.out W hb).mono (by
      rintro e w' ⟨⟨v, b, h1, h2⟩, h3⟩
      refine ⟨?_, h3⟩
      rcases h2 with ⟨_, rfl, rfl⟩ | ⟨x, h, _⟩
      · exact h1
      · rw [hbr] at h; cases h)⟩
    have HG := Aside0.mk (show goodF ns root = none by rw [goodF, hbr]; rfl)
    clear BR HBT hbr
    go_enter Try.func25, Try.ntmps25
    go_wp2_with (first | ((with_reducible refine gate_dst (N := 1) rfl ?_); go_loud (refine box_event ?hg (N := 1) ?hd (cs := #[.slice A ns.length c, .int .i64 root]) (t := 29) ?hr ?_; (case hd => rfl); (case hg => rfl); (case hr => first | (go_simp; done) | (go_simp; rfl)); intro gb hg w1 hbox hb; have HB1 := Aside0.mk (below_step HB.out hb); have hcz0 : w1.cell? ⟨gb, 0, none⟩ = some (.slice A ns.length c) := (blk_cell hbox 0).trans rfl; have hcz1 : w1.cell? ⟨gb, 1, none⟩ = some (.int .i64 root) := (blk_cell hbox 1).trans rfl; clear hb hbox hg HB)) | (go_at_call 39; go_loud (refine (BRN.out _ HB1.out).mono ?_; rintro e w2 ⟨rfl, hb2⟩; have HB2 := Aside0.mk (below_step HB1.out hb2); clear hb2 hcz0 hcz1)))
    go_ret2
    exact ⟨⟨_, _, rfl, .inl ⟨HG.out, rfl⟩⟩, HB2.out⟩
  | some x =>
    obtain ⟨n, hn⟩ : ∃ n, n = ns.length := ⟨_, rfl⟩
    have BRS : Aside0 (∀ W : World, Below w.heap.size w W → Calls Try.prog 39 #[.agg #[.slice A ns.length c, .int .i64 root]] W fun e w' => (∃ v, e = .returned (.tuple #[v, .bool true]) ∧ RepB n w' x v) ∧ Below W.heap.size W w') := ⟨fun W hb => (BR.out W hb).mono (by
      rintro e w' ⟨⟨v, b, h1, h2⟩, h3⟩
      refine ⟨⟨v, ?_⟩, h3⟩
      rcases h2 with ⟨h, _⟩ | ⟨y, h, rfl, hy⟩
      · rw [hbr] at h; cases h
      · rw [hbr] at h
        cases h
        rw [hn]
        exact ⟨h1, hy⟩)⟩
    have HN := Aside0.mk (show n ≤ 200 by rw [hn]; exact (HBT.out x hbr).1)
    obtain ⟨DF, hDF⟩ : ∃ DF, depthF n x = DF := ⟨_, rfl⟩
    obtain ⟨GB, hGB⟩ : ∃ GB, goodT n x (-1) 1000001 DF true = GB := ⟨_, rfl⟩
    have HG : Aside0 (goodF ns root = if GB = true ∧ (keysF n x).length ≤ 200 then some x else none) := ⟨by rw [goodF, hbr, Option.bind_some, ← hn, hDF, hGB]⟩
    have HNN := Aside0.mk hn
    have DW : Aside0 (∀ (W : World) (v : Value), RepB n W x v → Calls Try.prog 28 #[v] W fun e w' => e = .returned (.int .i64 DF) ∧ Below W.heap.size W w') := ⟨fun W v h => by rw [← hDF]; exact depth_walk n h⟩
    have GW : Aside0 (∀ (W : World) (v : Value), RepB n W x v → Calls Try.prog 40 #[v, .int .i64 (-1), .int .i64 1000001, .int .i64 DF, .bool true] W fun e w' => e = .returned (.bool GB) ∧ Below W.heap.size W w') := ⟨fun W v h => by rw [← hGB]; exact good_walk n (-1) 1000001 DF true h⟩
    have HGB := Aside0.mk (show GB = true → ShapeF n x ∧ (keysF n x).length < 1099511627776 from fun h => good_facts n x HN.out (by rw [hDF, hGB]; exact h))
    clear BR HBT hbr hn hDF hGB
    cases GB with
    | false =>
      have HF := Aside0.mk (show goodF ns root = none by rw [HG.out, if_neg (fun h => by cases h.1)])
      clear HG HGB
      go_enter Try.func25, Try.ntmps25
      go_wp2_with (first | ((with_reducible refine gate_dst (N := 1) rfl ?_); go_loud (refine box_event ?hg (N := 1) ?hd (cs := #[.slice A ns.length c, .int .i64 root]) (t := 29) ?hr ?_; (case hd => rfl); (case hg => rfl); (case hr => first | (go_simp; done) | (go_simp; rfl)); intro gb hg w1 hbox hb; have HB1 := Aside0.mk (below_step HB.out hb); have hcz0 : w1.cell? ⟨gb, 0, none⟩ = some (.slice A ns.length c) := (blk_cell hbox 0).trans rfl; have hcz1 : w1.cell? ⟨gb, 1, none⟩ = some (.int .i64 root) := (blk_cell hbox 1).trans rfl; clear HB; clear hb hbox hg)) | (go_at_call 39; go_loud (refine (BRS.out _ HB1.out).mono ?_; rintro e w2 ⟨⟨v, rfl, hv⟩, hb2⟩; obtain ⟨gv, rfl⟩ := RepB_ptr hv; have HR2 := Aside0.mk hv; have HB2 := Aside0.mk (below_step HB1.out hb2); clear hb2 hv hcz0 hcz1)) | (go_at_call 28; go_loud (refine (DW.out _ _ HR2.out).mono ?_; rintro e w3 ⟨rfl, hb3⟩; have HR3 := Aside0.mk (RepB_below _ HR2.out hb3); have HB3 := Aside0.mk (below_step HB2.out hb3); clear hb3)) | (go_at_call 40; go_loud (refine (GW.out _ _ HR3.out).mono ?_; rintro e w4 ⟨rfl, hb4⟩; have HR4 := Aside0.mk (RepB_below _ HR3.out hb4); have HB4 := Aside0.mk (below_step HB3.out hb4); clear hb4)))
      go_ret2
      exact ⟨⟨_, _, rfl, .inl ⟨HF.out, rfl⟩⟩, HB4.out⟩
    | true =>
      have KW : Aside0 (∀ (W : World) (v : Value), RepB n W x v → Calls Try.prog 30 #[v] W fun e w' => ∃ v1, e = .returned v1 ∧ Kd.R (Kd.int .i64) 3 w' W.heap.size (fun _ => True) v1 (keysF n x) ∧ Below W.heap.size W w') := ⟨fun W v h => keys_walk n h (HGB.out rfl).1 (HGB.out rfl).2⟩
      obtain ⟨KL, hKL⟩ : ∃ KL, keysF n x = KL := ⟨_, rfl⟩
      rw [hKL] at HG KW
      clear HGB hKL
      by_cases hl : KL.length ≤ 200
      case pos =>
        have hg : decide ((KL.length : Int) > 200) = false := decide_eq_false (by omega)
        have hg2 : (KL.length : Int) ≤ 200 := by omega
        have HF := Aside0.mk (show goodF ns root = some x by rw [HG.out, if_pos ⟨rfl, hl⟩])
        clear HG hl
        go_enter Try.func25, Try.ntmps25
        go_wp2_with (first | ((with_reducible refine gate_dst (N := 1) rfl ?_); go_loud (refine box_event ?hg (N := 1) ?hd (cs := #[.slice A ns.length c, .int .i64 root]) (t := 29) ?hr ?_; (case hd => rfl); (case hg => rfl); (case hr => first | (go_simp; done) | (go_simp; rfl)); intro gb hg w1 hbox hb; have HB1 := Aside0.mk (below_step HB.out hb); have hcz0 : w1.cell? ⟨gb, 0, none⟩ = some (.slice A ns.length c) := (blk_cell hbox 0).trans rfl; have hcz1 : w1.cell? ⟨gb, 1, none⟩ = some (.int .i64 root) := (blk_cell hbox 1).trans rfl; clear HB; clear hb hbox hg)) | (go_at_call 39; go_loud (refine (BRS.out _ HB1.out).mono ?_; rintro e w2 ⟨⟨v, rfl, hv⟩, hb2⟩; obtain ⟨gv, rfl⟩ := RepB_ptr hv; have HR2 := Aside0.mk hv; have HB2 := Aside0.mk (below_step HB1.out hb2); clear hb2 hv hcz0 hcz1)) | (go_at_call 28; go_loud (refine (DW.out _ _ HR2.out).mono ?_; rintro e w3 ⟨rfl, hb3⟩; have HR3 := Aside0.mk (RepB_below _ HR2.out hb3); have HB3 := Aside0.mk (below_step HB2.out hb3); clear hb3)) | (go_at_call 40; go_loud (refine (GW.out _ _ HR3.out).mono ?_; rintro e w4 ⟨rfl, hb4⟩; have HR4 := Aside0.mk (RepB_below _ HR3.out hb4); have HB4 := Aside0.mk (below_step HB3.out hb4); clear hb4)) | (go_at_call 30; go_loud (refine (KW.out _ _ HR4.out).mono ?_; rintro e w5 ⟨v5, rfl, hv5, hb5⟩; obtain ⟨A5, c5, e5⟩ := Kd.R_slice hv5; subst e5; have HR5 := Aside0.mk (RepB_below _ HR4.out hb5); have HB5 := Aside0.mk (below_step HB4.out hb5); clear hb5 hv5)))
        go_ret2
        exact ⟨⟨_, _, rfl, .inr ⟨x, HF.out, rfl, by rw [← HNN.out]; exact HR5.out⟩⟩, HB5.out⟩
      case neg =>
        have hg : decide ((KL.length : Int) > 200) = true := decide_eq_true (by omega)
        have hg2 : ¬ (KL.length : Int) ≤ 200 := by omega
        have HF := Aside0.mk (show goodF ns root = none by rw [HG.out, if_neg (fun h => hl h.2)])
        clear HG hl
        go_enter Try.func25, Try.ntmps25
        go_wp2_with (first | ((with_reducible refine gate_dst (N := 1) rfl ?_); go_loud (refine box_event ?hg (N := 1) ?hd (cs := #[.slice A ns.length c, .int .i64 root]) (t := 29) ?hr ?_; (case hd => rfl); (case hg => rfl); (case hr => first | (go_simp; done) | (go_simp; rfl)); intro gb hg w1 hbox hb; have HB1 := Aside0.mk (below_step HB.out hb); have hcz0 : w1.cell? ⟨gb, 0, none⟩ = some (.slice A ns.length c) := (blk_cell hbox 0).trans rfl; have hcz1 : w1.cell? ⟨gb, 1, none⟩ = some (.int .i64 root) := (blk_cell hbox 1).trans rfl; clear HB; clear hb hbox hg)) | (go_at_call 39; go_loud (refine (BRS.out _ HB1.out).mono ?_; rintro e w2 ⟨⟨v, rfl, hv⟩, hb2⟩; obtain ⟨gv, rfl⟩ := RepB_ptr hv; have HR2 := Aside0.mk hv; have HB2 := Aside0.mk (below_step HB1.out hb2); clear hb2 hv hcz0 hcz1)) | (go_at_call 28; go_loud (refine (DW.out _ _ HR2.out).mono ?_; rintro e w3 ⟨rfl, hb3⟩; have HR3 := Aside0.mk (RepB_below _ HR2.out hb3); have HB3 := Aside0.mk (below_step HB2.out hb3); clear hb3)) | (go_at_call 40; go_loud (refine (GW.out _ _ HR3.out).mono ?_; rintro e w4 ⟨rfl, hb4⟩; have HR4 := Aside0.mk (RepB_below _ HR3.out hb4); have HB4 := Aside0.mk (below_step HB3.out hb4); clear hb4)) | (go_at_call 30; go_loud (refine (KW.out _ _ HR4.out).mono ?_; rintro e w5 ⟨v5, rfl, hv5, hb5⟩; obtain ⟨A5, c5, e5⟩ := Kd.R_slice hv5; subst e5; have HR5 := Aside0.mk (RepB_below _ HR4.out hb5); have HB5 := Aside0.mk (below_step HB4.out hb5); clear hb5 hv5)))
        go_ret2
        exact ⟨⟨_, _, rfl, .inl ⟨HF.out, rfl⟩⟩, HB5.out⟩
/-! #### l7Keys -/
def KeysOut (l : List Int) (e : Ending) (w' : World) : Prop := ∃ A c, e = .returned (.slice A l.length c) ∧ l.length ≤ c ∧ (Kd.int .i64).C w' A l.length l
/-- what stands in the row behind i kids -/
def outS (n : Nat) (x : S47) (i : Nat) : List Int := if i ≤ x.f0.length then preF (keysF n) x i else keysF (n + 1) x
theorem outS_zero (n : Nat) (x : S47) : outS n x 0 = [] := by rw [outS, if_pos (Nat.zero_le _), preF]
theorem outS_mid (n : Nat) (x : S47) (hz : x.f1.length ≠ 0) (i : Nat) (hi : i < x.f0.length) : outS n x (i + 1) = (outS n x i ++ keysF n (kidF x i)) ++ [x.f0.getD i 0] := by
  unfold outS
  rw [if_pos (show i + 1 ≤ x.f0.length from hi), if_pos (Nat.le_of_lt hi), preF, if_neg hz]
theorem outS_last (n : Nat) (x : S47) (hz : x.f1.length ≠ 0) : outS n x (x.f0.length + 1) = outS n x x.f0.length ++ keysF n (kidF x x.f0.length) := by
  unfold outS
  rw [if_neg (Nat.not_succ_le_self _), if_pos (Nat.le_refl _), keysF, if_neg hz]
theorem outS_end (n : Nat) (x : S47) : outS n x (x.f0.length + 1) = keysF (n + 1) x := by rw [outS, if_neg (Nat.not_succ_le_self _)]
theorem outS_len (n : Nat) (x : S47) (hz : x.f1.length ≠ 0) : ∀ (j i : Nat), i + j = x.f0.length + 1 → (outS n x i).length ≤ (keysF (n + 1) x).length
  | 0, i, h => by rw [show i = x.f0.length + 1 by omega, outS_end]; exact Nat.le_refl _
  | j + 1, i, h => by
    have ih := outS_len n x hz j (i + 1) (by omega)
    refine Nat.le_trans ?_ ih
    by_cases hi : i < x.f0.length
    · rw [outS_mid n x hz i hi, List.length_append, List.length_append]; omega
    · rw [show i = x.f0.length by omega, outS_last n x hz, List.length_append]; omega
theorem keysF_leaf0 (n : Nat) (x : S47) (hz : x.f1.length = 0) : keysF (n + 1) x = x.f0 := by
  have h : ∀ i, i ≤ x.f0.length → preF (keysF n) x i = x.f0.take i := by
    intro i
    induction i with
    | zero => intro _; rw [preF, List.take_zero]
    | succ i ih =>
      intro h
      rw [preF, if_pos hz, ih (by omega), List.append_nil, List.getD_eq_getElem?_getD, List.getElem?_eq_getElem (show i < x.f0.length by omega), Option.getD_some, List.take_succ_eq_append_getElem (show i < x.f0.length by omega)]
  rw [keysF, if_pos hz, List.append_nil, h _ (Nat.le_refl _), List.take_length]
set_option maxHeartbeats 4000000 in
theorem l7keys_walk (n : Nat) : ∀ {w : World} {x : S47} {A0 : Option Addr} {c0 : Nat} {A1 : Option Addr} {c1 : Nat}, (Kd.int .i64).C w A0 x.f0.length x.f0 → x.f0.length ≤ c0 → k47.C w A1 x.f1.length x.f1 → x.f1.length ≤ c1 → ShapeF n x → (keysF n x).length < 1099511627776 → Calls Try.prog 29 #[.agg #[.slice A0 x.f0.length c0, .slice A1 x.f1.length c1]] w fun e w' => KeysOut (keysF n x) e w' ∧ Below w.heap.size w w' := by
  induction n with
  | zero => intro w x A0 c0 A1 c1 _ _ _ _ hs; exact hs.elim
  | succ n ih =>
    intro w x A0 c0 A1 c1 h0 l0 h1 l1 hs hl
    have LEAF : Aside0 (∀ W : World, Below w.heap.size w W → Calls Try.prog 42 #[.agg #[.slice A0 x.f0.length c0, .slice A1 x.f1.length c1]] W fun e w' => e = .returned (.bool ((x.f1.length : Int) == 0)) ∧ Below W.heap.size W w') := ⟨fun W hb => spec_l7Leaf.calls A0 c0 x.f0 A1 c1 x.f1 _ W (Kd.C_below h0 hb) l0 (Kd.C_below h1 hb) l1 rfl⟩
    have HR0 := Aside0.mk h0
    have HR1 := Aside0.mk h1
    have HL0 := Aside0.mk l0
    have HB := Aside0.mk (Below.refl w.heap.size w)
    by_cases hz : x.f1.length = 0
    · have hzb : ((x.f1.length : Int) == 0) = true := by rw [hz]; rfl
      have HK := Aside0.mk (keysF_leaf0 n x hz)
      clear h0 l0 h1 l1 hs hl hz
      rw [hzb] at LEAF
      clear hzb
      go_enter Try.func29, Try.ntmps29
      go_wp2_with (first | ((with_reducible refine gate_dst (N := 1) rfl ?_); refine box_event ?hg (N := 1) ?hd (cs := #[.slice A0 x.f0.length c0, .slice A1 x.f1.length c1]) (t := 47) ?hr ?_; (case hd => rfl); (case hg => rfl); (case hr => first | (go_simp; done) | (go_simp; rfl)); intro g1 hg w1 hbox hb; have HB1 := Aside0.mk (below_step HB.out hb); have BK := Aside0.mk hbox; have hcz0 : w1.cell? ⟨g1, 0, none⟩ = some (.slice A0 x.f0.length c0) := (blk_cell hbox 0).trans rfl; have hcz1 : w1.cell? ⟨g1, 1, none⟩ = some (.slice A1 x.f1.length c1) := (blk_cell hbox 1).trans rfl; have hf0 := blk_frozen hbox 0; have hf1 := blk_frozen hbox 1; clear hb hbox hg HB) | (go_at_call 42; refine (LEAF.out _ HB1.out).mono ?_; rintro e w3 ⟨rfl, hb3⟩; have HB3 := Aside0.mk (below_step HB1.out hb3); have hq0 : w3.cell? ⟨g1, 0, none⟩ = some (.slice A0 x.f0.length c0) := (blk_cell (blk_below BK.out hb3) 0).trans rfl; clear hb3))
      go_ret
      rw [HK.out]
      exact ⟨⟨A0, c0, rfl, HL0.out, Kd.C_below HR0.out HB3.out⟩, HB3.out⟩
    · have hzb : ((x.f1.length : Int) == 0) = false := by
        rw [Bool.eq_false_iff]
        intro h
        have := eq_of_beq h
        omega
      have hsh : x.f1.length = x.f0.length + 1 ∧ ∀ i, i < x.f1.length → ShapeF n (kidF x i) := by
        rcases hs with h | h
        · exact absurd h hz
        · exact h
      have HLEN : Aside0 (∀ i, i ≤ x.f0.length + 1 → (outS n x i).length < 1099511627776) := ⟨fun i hi => Nat.lt_of_le_of_lt (outS_len n x hz (x.f0.length + 1 - i) i (by omega)) hl⟩
      have HSH := Aside0.mk hsh
      have HZ := Aside0.mk hz
      have HKL : Aside0 (∀ i, i < x.f1.length → (outS n x i).length + (keysF n (kidF x i)).length < 1099511627776 ∧ (i < x.f0.length → (outS n x i).length + (keysF n (kidF x i)).length + 1 < 1099511627776)) := ⟨fun i hi => by
        by_cases h : i < x.f0.length
        · have := HLEN.out (i + 1) (by omega)
          rw [outS_mid n x hz i h, List.length_append, List.length_append, List.length_singleton] at this
          omega
        · have := HLEN.out (x.f0.length + 1) (by omega)
          rw [outS_last n x hz, List.length_append] at this
          rw [show i = x.f0.length by have := hsh.1; omega]
          omega⟩
      have KID : Aside0 (∀ (wr : World) (i : Nat) (Ak0 : Option Addr) (ck0 : Nat) (Ak1 : Option Addr) (ck1 : Nat), i < x.f1.length → (Kd.int .i64).C wr Ak0 (kidF x i).f0.length (kidF x i).f0 → (kidF x i).f0.length ≤ ck0 → k47.C wr Ak1 (kidF x i).f1.length (kidF x i).f1 → (kidF x i).f1.length ≤ ck1 → ∀ W : World, Below wr.heap.size wr W → Calls Try.prog 29 #[.agg #[.slice Ak0 (kidF x i).f0.length ck0, .slice Ak1 (kidF x i).f1.length ck1]] W fun e w' => KeysOut (keysF n (kidF x i)) e w' ∧ Below W.heap.size W w') := ⟨fun wr i Ak0 ck0 Ak1 ck1 hi q0 q1 q2 q3 W hb => ih (Kd.C_below q0 hb) q1 (Kd.C_below q2 hb) q3 (hsh.2 i hi) (by have := (HKL.out i hi).1; omega)⟩
      have hnl : x.f0.length < 1099511627776 := by
        have q : ∀ i, i ≤ x.f0.length → i ≤ (outS n x i).length := fun i => by
          induction i with
          | zero => exact fun _ => Nat.zero_le _
          | succ i ih => intro h; rw [outS_mid n x hz i h, List.length_append, List.length_append]; have := ih (by omega); show i + 1 ≤ _ + _ + 1; omega
        exact Nat.lt_of_le_of_lt (q _ (Nat.le_refl _)) (HLEN.out _ (by omega))
      have HNL := Aside0.mk hnl
      clear h0 l0 h1 l1 hs hl hz hsh hnl ih
      rw [hzb] at LEAF
      clear hzb
      go_enter Try.func29, Try.ntmps29
      go_wp2_with (first | ((with_reducible refine gate_dst (N := 1) rfl ?_); refine box_event ?hg (N := 1) ?hd (cs := #[.slice A0 x.f0.length c0, .slice A1 x.f1.length c1]) (t := 47) ?hr ?_; (case hd => rfl); (case hg => rfl); (case hr => first | (go_simp; done) | (go_simp; rfl)); intro g1 hg w1 hbox hb; have HB1 := Aside0.mk (below_step HB.out hb); have BK := Aside0.mk hbox; have hcz0 : w1.cell? ⟨g1, 0, none⟩ = some (.slice A0 x.f0.length c0) := (blk_cell hbox 0).trans rfl; have hcz1 : w1.cell? ⟨g1, 1, none⟩ = some (.slice A1 x.f1.length c1) := (blk_cell hbox 1).trans rfl; have hf0 := blk_frozen hbox 0; have hf1 := blk_frozen hbox 1; clear hb hbox hg HB) | (go_at_call 42; refine (LEAF.out _ HB1.out).mono ?_; rintro e w3 ⟨rfl, hb3⟩; have HB3 := Aside0.mk hb3; have hq0 : w3.cell? ⟨g1, 0, none⟩ = some (.slice A0 x.f0.length c0) := (blk_cell (blk_below BK.out hb3) 0).trans rfl; have hq1 : w3.cell? ⟨g1, 1, none⟩ = some (.slice A1 x.f1.length c1) := (blk_cell (blk_below BK.out hb3) 1).trans rfl; clear hb3 hcz0 hcz1 hf0 hf1))
      clear hq0 hq1
      have HO := Aside0.mk (Kd.R_nil (Kd.int .i64) 3 w3 w1.heap.size (fun _ => True))
      have HI0 := Aside0.mk (outS_zero n x)
      go_loopg [3, 13] x.f1.length (fun kq v3 v13 w' => ∃ i : Nat, v13 = .int .i64 (i : Int) ∧ i ≤ x.f1.length ∧ x.f1.length - i ≤ kq ∧ Aside0 (Kd.R (Kd.int .i64) 3 w' w1.heap.size (fun _ => True) v3 (outS n x i)) ∧ Aside0 (Below w1.heap.size w1 w'))
      case atStart => exact ⟨0, rfl, Nat.zero_le _, by omega, ⟨by rw [HI0.out]; exact HO.out⟩, HB3⟩
      case round =>
        clear HO HB3 HI0
        obtain ⟨i, rfl, hin, hkq, HO2, HB2⟩ := hrel
        obtain ⟨OL, hOL⟩ : ∃ OL, outS n x i = OL := ⟨_, rfl⟩
        have HOL := Aside0.mk hOL
        rw [hOL] at HO2
        obtain ⟨Ao, co, eo⟩ := Kd.R_slice HO2.out
        subst eo
        by_cases hlt : i < x.f1.length
        · have pi : 0 ≤ (i : Int) := Int.natCast_nonneg i
          have qi : (i : Int) < (x.f1.length : Int) := Int.ofNat_lt.mpr hlt
          obtain ⟨adk, Ak0, ck0, Ak1, ck1, ek, hx0, hx1, hl0, hi0, hl1, hi1⟩ := at_T47 (Kd.C_below (Kd.C_below HR1.out HB1.out) HB2.out) (i : Int) pi qi
          cases ek
          have hrd : rd_T47 x.f1 (i : Int) = kidF x i := by unfold rd_T47 kidF; rw [Int.toNat_natCast]
          rw [hrd] at hx0 hx1 hl0 hi0 hl1 hi1
          rw [Int.toNat_natCast] at hx0 hx1
          have KC := Aside0.mk (KID.out wr i Ak0 ck0 Ak1 ck1 hlt hi0 hl0 hi1 hl1)
          have HKB := Aside0.mk (HKL.out i hlt)
          have HLT := Aside0.mk hlt
          have HW := Aside0.mk (wrap_inc i (by have := HSH.out.1; have := HNL.out; omega))
          have HME := Aside0.mk (meas_dec hkq hlt)
          obtain ⟨KN, hKN⟩ : ∃ KN, kidF x i = KN := ⟨_, rfl⟩
          have HKN := Aside0.mk hKN
          rw [hKN] at hx0 hx1 KC HKB
          obtain ⟨KL, hKL⟩ : ∃ KL, keysF n KN = KL := ⟨_, rfl⟩
          have HKLE := Aside0.mk hKL
          rw [hKL] at KC HKB
          rw [hOL] at HKB
          clear hkq hrd hl0 hi0 hl1 hi1 hlt hKN hKL hOL
          by_cases hk : i < x.f0.length
          · have hkb : ((i : Int) < (x.f0.length : Int)) := Int.ofNat_lt.mpr hk
            obtain ⟨ad0, e0, hx3⟩ := Kd.at_int HR0.out (i : Int) pi hkb
            cases e0
            rw [rd_get, Int.toNat_natCast] at hx3
            obtain ⟨ky, hky⟩ : ∃ ky, x.f0.getD i 0 = ky := ⟨_, rfl⟩
            rw [hky] at hx3
            have HST := Aside0.mk (show outS n x (i + 1) = (OL ++ KL) ++ [ky] by rw [outS_mid n x HZ.out i hk, HOL.out, HKN.out, HKLE.out, hky])
            have HX3 := Aside0.mk hx3
            have HK := Aside0.mk hk
            clear hky hx3 hk
            have SB : Aside0 (∀ W : World, Below w1.heap.size w1 W → W.cell? ⟨g1, 0, none⟩ = some (.slice (some ad0) x.f0.length c0) ∧ W.cell? (ad0.add i) = some (.int .i64 ky)) := ⟨fun W hb => ⟨(blk_cell (blk_below BK.out hb) 0).trans rfl, ((below_weaken HB1.out (below_size HB1.out) hb).cell (World.block_lt_of_cell? _ _ HX3.out)).trans HX3.out⟩⟩
            go_wp2_with (first | ((with_reducible refine gate_dst (N := 5) rfl ?_); refine box_event ?hg (N := 5) ?hd (cs := #[.slice none 0 0, .slice none 0 0]) (t := 47) ?hr ?_; (case hd => rfl); (case hg => rfl); (case hr => first | (go_simp; done) | (go_simp; rfl)); intro g5 hg w5 hbox hb; have HR5 := Aside0.mk hb; have GE5 := Aside0.mk (show wr.heap.size ≤ g5 by rw [hg]; exact Nat.le_refl _); have hcz0 : w5.cell? ⟨g5, 0, none⟩ = some (.slice none 0 0) := (blk_cell hbox 0).trans rfl; have hcz1 : w5.cell? ⟨g5, 1, none⟩ = some (.slice none 0 0) := (blk_cell hbox 1).trans rfl; have hf0 := blk_frozen hbox 0; have hf1 := blk_frozen hbox 1; clear hb hbox hg) | (go_at_call 29; refine (KC.out _ (by repeat (first | (with_reducible first | exact HR5.out | apply below_alloc | apply pw_below_drewN | apply below_drew1 | refine below_set ?_ GE5.out) | exact HR5.out))).mono ?_; rintro e w7 ⟨⟨Ak, ck, rfl, hlk, hck⟩, hb7⟩; have HR7 := Aside0.mk (below_step (by repeat (first | (with_reducible first | exact HR5.out | apply below_alloc | apply pw_below_drewN | apply below_drew1 | refine below_set ?_ GE5.out) | exact HR5.out)) hb7); have HB7 := Aside0.mk (below_then HB2.out (below_size HB2.out) HR7.out); have HCK := Aside0.mk hck; have HO7 := Aside0.mk (Kd.R_below HO2.out HR7.out); clear hb7 hlk hck hcz0 hcz1 hf0 hf1) | ((with_reducible refine gate_builtin (b := .append) (xs := #[.tmp 18, .tmp 20]) rfl ?_); at_builtin; refine Kd.R_append_rows (Kd.int .i64) (w0 := w1) w1.heap.size rfl (.tmp 18) (.tmp 20) 35 3 (.int .i64 0) 8 rfl Try.underlying35 info_int rfl (by decide) (by omega) (.slice Ao OL.length co) OL KL _ _ _ (fun _ => True) (fun _ => False) rfl rfl ?aO ?aR (fun _ _ h => h) (fun _ h => h.elim) ?aF ?aB ?aS ?aL ?_; (case aR => exact HCK.out); (case aB => exact HB7.out); (case aF => exact (fun _ _ => trivial)); (case aO => exact HO7.out); (case aS => exact (below_size HB7.out)); (case aL => have := HKB.out.1; omega); intro v8 w8 ho hb hg hat; obtain ⟨L8, hL8⟩ : ∃ L8, L8 = OL ++ KL := ⟨_, rfl⟩; rw [← hL8] at ho; have HL8 := Aside0.mk hL8; clear hL8; have HO8 := Aside0.mk ho; have HB8 := Aside0.mk hb; obtain ⟨hs0, hs3⟩ := SB.out w8 HB8.out; clear ho hb hg hat; obtain ⟨Ao8, co8, eo8⟩ := Kd.R_slice HO8.out; subst eo8) | ((with_reducible refine gate_builtin (b := .append) (xs := #[.tmp 27, .tmp 33]) rfl ?_); at_builtin; refine Kd.R_append (Kd.int .i64) (w0 := w1) w1.heap.size rfl (.tmp 27) (.tmp 33) 35 3 (.int .i64 0) 8 rfl Try.underlying35 info_int rfl (by decide) (by omega) (.slice Ao8 L8.length co8) L8 ky [.int .i64 ky] (fun _ => True) (fun _ => False) rfl rfl ?aP (fun _ hk => hk.elim) ?aF ?aO ?aB ?aS ?aL ?_; (case aP => exact rfl); (case aF => exact (fun _ _ => trivial)); (case aO => exact HO8.out); (case aB => exact HB8.out); (case aS => exact (below_size HB8.out)); (case aL => have := HKB.out.2 HK.out; rw [HL8.out, List.length_append]; omega); intro v9 w9 ho hb hg hat; have HO9 := Aside0.mk ho; have HB9 := Aside0.mk hb; clear ho hb hg hat))
            obtain ⟨Ao9, co9, eo9⟩ := Kd.R_slice HO9.out
            subst eo9
            go_roundg (x.f1.length - (i + 1))
            case measure => exact HME.out
            case rel => exact ⟨i + 1, by first | (rw [HW.out]; done) | rfl, HLT.out, Nat.le_refl _, ⟨by rw [HST.out, ← HL8.out]; exact HO9.out⟩, HB9⟩
          · have hk2 : i = x.f0.length := by have := HSH.out.1; have := HLT.out; omega
            have hkb : ¬ ((i : Int) < (x.f0.length : Int)) := by omega
            have HST := Aside0.mk (show outS n x (i + 1) = OL ++ KL by rw [hk2, outS_last n x HZ.out, ← hk2, HOL.out, HKN.out, HKLE.out])
            clear hk hk2
            go_wp2_with (first | ((with_reducible refine gate_dst (N := 5) rfl ?_); refine box_event ?hg (N := 5) ?hd (cs := #[.slice none 0 0, .slice none 0 0]) (t := 47) ?hr ?_; (case hd => rfl); (case hg => rfl); (case hr => first | (go_simp; done) | (go_simp; rfl)); intro g5 hg w5 hbox hb; have HR5 := Aside0.mk hb; have GE5 := Aside0.mk (show wr.heap.size ≤ g5 by rw [hg]; exact Nat.le_refl _); have hcz0 : w5.cell? ⟨g5, 0, none⟩ = some (.slice none 0 0) := (blk_cell hbox 0).trans rfl; have hcz1 : w5.cell? ⟨g5, 1, none⟩ = some (.slice none 0 0) := (blk_cell hbox 1).trans rfl; have hf0 := blk_frozen hbox 0; have hf1 := blk_frozen hbox 1; clear hb hbox hg) | (go_at_call 29; refine (KC.out _ (by repeat (first | (with_reducible first | exact HR5.out | apply below_alloc | apply pw_below_drewN | apply below_drew1 | refine below_set ?_ GE5.out) | exact HR5.out))).mono ?_; rintro e w7 ⟨⟨Ak, ck, rfl, hlk, hck⟩, hb7⟩; have HR7 := Aside0.mk (below_step (by repeat (first | (with_reducible first | exact HR5.out | apply below_alloc | apply pw_below_drewN | apply below_drew1 | refine below_set ?_ GE5.out) | exact HR5.out)) hb7); have HB7 := Aside0.mk (below_then HB2.out (below_size HB2.out) HR7.out); have HCK := Aside0.mk hck; have HO7 := Aside0.mk (Kd.R_below HO2.out HR7.out); clear hb7 hlk hck hcz0 hcz1 hf0 hf1) | ((with_reducible refine gate_builtin (b := .append) (xs := #[.tmp 18, .tmp 20]) rfl ?_); at_builtin; refine Kd.R_append_rows (Kd.int .i64) (w0 := w1) w1.heap.size rfl (.tmp 18) (.tmp 20) 35 3 (.int .i64 0) 8 rfl Try.underlying35 info_int rfl (by decide) (by omega) (.slice Ao OL.length co) OL KL _ _ _ (fun _ => True) (fun _ => False) rfl rfl ?aO ?aR (fun _ _ h => h) (fun _ h => h.elim) ?aF ?aB ?aS ?aL ?_; (case aR => exact HCK.out); (case aB => exact HB7.out); (case aF => exact (fun _ _ => trivial)); (case aO => exact HO7.out); (case aS => exact (below_size HB7.out)); (case aL => have := HKB.out.1; omega); intro v8 w8 ho hb hg hat; obtain ⟨L8, hL8⟩ : ∃ L8, L8 = OL ++ KL := ⟨_, rfl⟩; rw [← hL8] at ho; have HL8 := Aside0.mk hL8; clear hL8; have HO8 := Aside0.mk ho; have HB8 := Aside0.mk hb; have hs0 : w8.cell? ⟨g1, 0, none⟩ = some (.slice A0 x.f0.length c0) := (blk_cell (blk_below BK.out hb) 0).trans rfl; clear ho hb hg hat; obtain ⟨Ao8, co8, eo8⟩ := Kd.R_slice HO8.out; subst eo8))
            go_roundg (x.f1.length - (i + 1))
            case measure => exact HME.out
            case rel => exact ⟨i + 1, by first | (rw [HW.out]; done) | rfl, HLT.out, Nat.le_refl _, ⟨by rw [HST.out, ← HL8.out]; exact HO8.out⟩, HB8⟩
        · obtain rfl : i = x.f1.length := Nat.le_antisymm hin (Nat.not_lt.mp hlt)
          have hnl : ¬ ((x.f1.length : Int) < (x.f1.length : Int)) := Int.lt_irrefl _
          have HST := Aside0.mk (show OL = keysF (n + 1) x by rw [← HOL.out, HSH.out.1, outS_end])
          clear hkq hlt hin hOL
          go_wp2
          go_ret
          rw [HST.out] at HO2 ⊢
          exact ⟨⟨Ao, co, rfl, (Kd.R_reads' HO2.out).2.1, (Kd.R_reads' HO2.out).2.2⟩, below_weaken HB1.out (below_size HB1.out) HB2.out⟩

end Go.Proofs.Ytmgbfbpolmbnfaa.PFnExactKeysOf
