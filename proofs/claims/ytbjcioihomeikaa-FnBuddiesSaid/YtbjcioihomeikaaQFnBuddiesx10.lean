/- The walks of FnBuddies: Go's calls come to what the Lean functions beside them say; no condition. -/
import Derived.Test.YtbjcioihomeikaaQFnBuddiesx0
import Derived.Test.YtbjcioihomeikaaQFnBuddiesx1
import Derived.Test.YtbjcioihomeikaaQFnBuddiesx6
import Derived.Test.YtbjcioihomeikaaQFnBuddiesx7
import Derived.Test.YtbjcioihomeikaaQFnBuddiesx9
namespace Go.Proofs.Ytbjcioihomeikaa.PFnBuddies
open Go.RowKit Go.Proofs.YtbjcioihomeikaaW.PrintWords Go.Proofs.YtbjcioihomeikaaW.PrintLast Go.Proofs.YtbjcioihomeikaaW.PrintMore
attribute [local go_sem] max2_int min2_int max_two min_two max_three min_three max_four min_four   -- for this text's walks alone
set_option linter.unusedVariables false
set_option linter.unusedSimpArgs false
set_option maxRecDepth 100000

/-! ### impl_lacking: function 36 (by hand) -/
-- over the words of impl_Block_53 (indexB) and impl_Block_49 (encB)
/-- how far a deleting has come: j blocks read, the i that stay laid ahead, the cells from j on as they were -/
structure DelB (p : S45 → Bool) (xs : List S45) (n : Nat) (c0 c : Array Value) (i j : Nat) : Prop where
 le : j ≤ n
 num : i = ((xs.take j).filter fun x => !p x).length
 size : c.size = c0.size
 low : c.toList.take (i * 2) = ((xs.take j).filter fun x => !p x).flatMap encB
 high : c.toList.drop (j * 2) = c0.toList.drop (j * 2)
theorem DelB.lt {p : S45 → Bool} {xs : List S45} {n : Nat} {c0 c : Array Value} {i j : Nat} (h : DelB p xs n c0 c i j) : i ≤ j := by
 rw [h.num]
 exact Nat.le_trans (List.length_filter_le _ _) (by rw [List.length_take]; omega)
theorem DelB.skip {p : S45 → Bool} {xs : List S45} {n : Nat} {c0 c : Array Value} {i j : Nat} (h : DelB p xs n c0 c i j) (hn : n = xs.length) (hj : j < n) (hp : p (xs[j]'(by omega)) = true) : DelB p xs n c0 c i (j + 1) := by
 have e : (xs.take (j + 1)).filter (fun x => !p x) = (xs.take j).filter fun x => !p x := by
  rw [List.take_add_one, List.getElem?_eq_getElem (by omega), List.filter_append]
  simp [hp]
 refine ⟨by omega, by rw [e]; exact h.num, h.size, by rw [e]; exact h.low, ?_⟩
 have h2 := congrArg (List.drop 2) h.high
 rw [List.drop_drop, List.drop_drop] at h2
 rw [show (j + 1) * 2 = j * 2 + 2 by omega]
 exact h2
theorem take_two {α : Type} (l : List α) (i : Nat) (a b : α) (h : i * 2 + 1 < l.length) : ((l.set (i * 2) a).set (i * 2 + 1) b).take ((i + 1) * 2) = l.take (i * 2) ++ [a, b] := by
 have l1 : (l.take (i * 2)).length = i * 2 := by rw [List.length_take]; omega
 apply List.ext_getElem?
 intro m
 rw [List.getElem?_take]
 by_cases h1 : m < i * 2
 ·rw [if_pos (by omega), List.getElem?_set_ne (by omega), List.getElem?_set_ne (by omega), List.getElem?_append_left (by omega), List.getElem?_take, if_pos h1]
 ·rw [List.getElem?_append_right (by omega), l1]
  by_cases h2 : m = i * 2
  ·subst h2
   rw [if_pos (by omega), List.getElem?_set_ne (by omega), List.getElem?_set_self (by omega), Nat.sub_self]
   rfl
  ·by_cases h3 : m = i * 2 + 1
   ·subst h3
    rw [if_pos (by omega), List.getElem?_set_self (by rw [List.length_set]; omega), show i * 2 + 1 - i * 2 = 1 by omega]
    rfl
   ·rw [if_neg (by omega), List.getElem?_eq_none (by show 2 ≤ _; omega)]
theorem DelB.keep {p : S45 → Bool} {xs : List S45} {n : Nat} {c0 c : Array Value} {i j : Nat} (h : DelB p xs n c0 c i j) (hn : n = xs.length) (hj : j < n) (hs : n * 2 ≤ c0.size) (x : S45) (hx : xs[j]'(by omega) = x) (hp : p x = false) : DelB p xs n c0 ((c.setIfInBounds (i * 2) (.int .i64 x.f0)).setIfInBounds (i * 2 + 1) (.int .i64 x.f1)) (i + 1) (j + 1) := by
 have hl := h.lt; have hsz := h.size
 have e : (xs.take (j + 1)).filter (fun x => !p x) = ((xs.take j).filter fun x => !p x) ++ [x] := by
  rw [List.take_add_one, List.getElem?_eq_getElem (by omega), List.filter_append, hx]
  simp [hp]
 refine ⟨by omega, by rw [e, List.length_append, ← h.num]; rfl, by simp [hsz], ?_, ?_⟩
 ·rw [e, List.flatMap_append, ← h.low, Array.toList_setIfInBounds, Array.toList_setIfInBounds]
  rw [take_two c.toList i _ _ (by rw [Array.length_toList]; omega)]
  rfl
 ·rw [Array.toList_setIfInBounds, Array.toList_setIfInBounds, List.drop_set_of_lt (by omega), List.drop_set_of_lt (by omega)]
  have h2 := congrArg (List.drop 2) h.high
  rw [List.drop_drop, List.drop_drop] at h2
  rw [show (j + 1) * 2 = j * 2 + 2 by omega]
  exact h2
theorem DelB.start {p : S45 → Bool} {xs : List S45} {c0 : Array Value} {k : Nat} (h0 : c0.toList.take (xs.length * 2) = xs.flatMap encB) (hk : k < xs.length) (ha : ∀ j (hj : j < k), p (xs[j]'(by omega)) = false) (hp : p xs[k] = true) : DelB p xs xs.length c0 c0 k (k + 1) := by
 have e0 : (xs.take k).filter (fun x => !p x) = xs.take k := by
  rw [List.filter_eq_self]
  intro x hx
  obtain ⟨j, hj, rfl⟩ := List.mem_iff_getElem.mp hx
  rw [List.length_take] at hj
  rw [List.getElem_take, ha j (by omega)]
  rfl
 have h : DelB p xs xs.length c0 c0 k k := by
  refine ⟨by omega, by rw [e0, List.length_take]; omega, rfl, ?_, rfl⟩
  rw [e0]
  have e1 : (xs.take k).flatMap encB = (xs.flatMap encB).take (k * 2) := by
   have e := (List.take_append_drop k xs).symm
   have e2 : xs.flatMap encB = (xs.take k).flatMap encB ++ (xs.drop k).flatMap encB := by rw [← List.flatMap_append, List.take_append_drop]
   rw [e2, List.take_left' (by rw [flat_len, List.length_take]; omega)]
  rw [e1, ← h0, List.take_take]
  congr 1; omega
 exact h.skip rfl hk hp
theorem DelB.read {p : S45 → Bool} {xs : List S45} {c0 c : Array Value} {i j : Nat} (h : DelB p xs xs.length c0 c i j) (h0 : c0.toList.take (xs.length * 2) = xs.flatMap encB) (hj : j < xs.length) : c[j * 2]? = some (.int .i64 xs[j].f0) ∧ c[j * 2 + 1]? = some (.int .i64 xs[j].f1) := by
 have key : ∀ m, j * 2 ≤ m → m < xs.length * 2 → c[m]? = (xs.flatMap encB)[m]? := fun m h1 h2 => by
  have a := congrArg (fun l => l[m - j * 2]?) h.high
  simp only [List.getElem?_drop] at a
  rw [show j * 2 + (m - j * 2) = m by omega] at a
  rw [← Array.getElem?_toList, a, ← h0, List.getElem?_take, if_pos h2]
 have e2 : xs.flatMap encB = (xs.take j).flatMap encB ++ (encB xs[j] ++ (xs.drop (j + 1)).flatMap encB) := by
  rw [← List.flatMap_cons, ← List.drop_eq_getElem_cons hj, ← List.flatMap_append, List.take_append_drop]
 have l1 : ((xs.take j).flatMap encB).length = j * 2 := by rw [flat_len, List.length_take]; omega
 refine ⟨?_, ?_⟩
 ·rw [key _ (Nat.le_refl _) (by omega), e2, List.getElem?_append_right (by omega), l1, Nat.sub_self]; rfl
 ·rw [key _ (by omega) (by omega), e2, List.getElem?_append_right (by omega), l1, show j * 2 + 1 - j * 2 = 1 by omega]; rfl
theorem firstB_none (p : S45 → Bool) : ∀ (l : List S45) (i : Int), 0 ≤ i → firstB p l i = -1 → ∀ x ∈ l, p x = false
 | [], _, _, _, x, hx => by cases hx
 | y :: l, i, hi, h, x, hx => by
  rw [firstB] at h
  by_cases hp : p y = true
  ·rw [if_pos hp] at h; omega
  ·rw [if_neg hp] at h
   rcases List.mem_cons.mp hx with rfl | hx
   ·simpa using hp
   ·exact firstB_none p l (i + 1) (by omega) h x hx
theorem firstB_some (p : S45 → Bool) : ∀ (l : List S45) (i : Int), 0 ≤ i → firstB p l i ≠ -1 → ∃ k : Nat, ∃ h : k < l.length, firstB p l i = i + (k : Int) ∧ p l[k] = true ∧ ∀ j (hj : j < k), p (l[j]'(by omega)) = false
 | [], _, _, h => absurd rfl h
 | y :: l, i, hi, h => by
  rw [firstB] at h ⊢
  by_cases hp : p y = true
  ·exact ⟨0, by simp, by rw [if_pos hp]; simp, hp, fun j hj => absurd hj (Nat.not_lt_zero j)⟩
  ·rw [if_neg hp] at h ⊢
   obtain ⟨k, hk, e, ht, ha⟩ := firstB_some p l (i + 1) (by omega) h
   refine ⟨k + 1, by simpa using hk, by rw [e]; omega, ht, fun j hj => ?_⟩
   cases j with
   | zero => simpa using hp
   | succ j => exact ha j (by omega)
theorem clearK (w : World) (t e ty : TypeId) (z : Value) (g o n c : Nat) (cur : Array Value) (tt : TypeId) (cs : List Value) {P : Program}
  (ht : P.underlying t = some (.slice e)) (hv : ∀ w, (zeroValue e).run P w = .ok z w) (hcs : (Builtin.zeroCells z.cells n).toList = cs) (hn : 0 < n)
  (hg : w.heap[g]? = some (.cells cur tt (0, 0))) (hfit : o + cs.length ≤ cur.size) (h1 : ∀ v ∈ cs, v.oneCell' = true) :
  (Builtin.clear_ #[t] ty #[.slice (some ⟨g, o, none⟩) n c]).run P w = .ok (.tuple #[]) (w.setRow g (cur.toList.take o ++ cs ++ cur.toList.drop (o + cs.length)).toArray) := by
 have hst := run_storeCells_at P g o tt cs 0 cur w hg (by simpa using hfit) h1
 obtain ⟨m, rfl⟩ : ∃ m, n = m + 1 := ⟨n - 1, by omega⟩
 simp [Builtin.clear_, run_underlying ht, hv, hcs, hst]
theorem clear_step {P : Program} (w : World) {ops : Array Oper} {rest : List Oper} {o : Oper} {a : Act} {Q : Exit → Act → World → Prop} (hgd : o.guard = none) (d : Operand) (t : TypeId)
  (ho : o.op = .call { callee := .builtin .clear, args := #[d], argTypes := #[t] }) (v : Value) (hd : a.eval d = v) {v' : Value} {w' : World}
  (hr : (Builtin.clear_ #[t] o.type #[v]).run P w = .ok v' w') (h : wpList P ops Q rest (a.put o.dst v') w') : wpList P ops Q (o :: rest) a w := by
 refine Kd.event_run hgd (w1 := w') (v := v') ?_ h
 unfold execOp
 simp only [ho, resolve, invoke, builtin, Sem.run_bind, Sem.run_pure, Result.andThen_ok, List.map_toArray, List.map_cons, List.map_nil, hd, hr]
theorem two_zeros (n : Nat) : (Builtin.zeroCells (Value.agg #[.int .i64 0, .int .i64 0]).cells n).toList.length = n * 2 ∧ ∀ v ∈ (Builtin.zeroCells (Value.agg #[.int .i64 0, .int .i64 0]).cells n).toList, v.oneCell' = true := by
 constructor
 ·simp [Builtin.zeroCells, Value.cells]
 ·intro v hv
  simp [Builtin.zeroCells, Value.cells] at hv
  obtain ⟨a, _, rfl⟩ := hv
  rcases Nat.mod_two_eq_zero_or_one a with h | h <;> rw [h] <;> rfl
theorem grown_setRowL (w : World) (g : Nat) (R : Array Value) : w.grownBy (w.setRow g R) (some g) := by
 refine ⟨rfl, rfl, rfl, ?_, fun k _ hk => ?_⟩
 ·show w.heap.size ≤ (w.heap.modify g _).size
  simp
 ·show (w.heap.modify g _)[k]? = w.heap[k]?
  rw [Array.getElem?_modify, if_neg (fun e => hk (by rw [e]))]
theorem meas_lt {n j g : Nat} (h : n - j ≤ g) (hj : j < n) : n - (j + 1) < g := by omega
theorem grown_setCellB (w : World) (g i : Nat) (u : Value) : w.grownBy (w.setCell ⟨g, i, none⟩ u) (some g) := by
 refine ⟨rfl, rfl, rfl, ?_, fun k _ hk => ?_⟩
 ·show w.heap.size ≤ (w.heap.modify g _).size
  simp
 ·show (w.heap.modify g _)[k]? = w.heap[k]?
  rw [Array.getElem?_modify, if_neg (fun e => hk (by rw [e]))]
theorem clear_two {p : S45 → Bool} {xs : List S45} {n c g i : Nat} {c0 cu : Array Value} {wr : World} (hD : DelB p xs n c0 cu i n) (h0 : c0.toList.take (xs.length * 2) = xs.flatMap encB) (hs : c0.size = c * 2) (hn : n ≤ c) (hi : i < n) (hg : wr.heap[g]? = some (.cells cu 45 (0, 0))) :
  ∃ R : Array Value, (∀ ty, (Builtin.clear_ #[26] ty #[.slice (some ⟨g, i * 2, none⟩) (n - i) (c - i)]).run Try.prog wr = .ok (.tuple #[]) (wr.setRow g R)) ∧ R.size = c * 2 ∧ R.toList.take (i * 2) = ((xs.take n).filter fun x => !p x).flatMap encB := by
 obtain ⟨l1, l2⟩ := two_zeros (n - i); have hsz := hD.size
 have h := fun ty => clearK (P := Try.prog) wr 26 45 ty (.agg #[.int .i64 0, .int .i64 0]) g (i * 2) (n - i) (c - i) cu 45 _ Try.underlying26 Try.zeroValue45 rfl (by omega) hg (by rw [l1]; omega) l2
 refine ⟨_, h, ?_, ?_⟩
 ·rw [List.size_toArray, List.length_append, List.length_append, l1, List.length_take, List.length_drop, Array.length_toList]
  omega
 ·rw [← hD.low]
  show List.take (i * 2) (_ ++ _ ++ _) = _
  rw [List.append_assoc]
  rw [List.take_append_of_le_length (by rw [List.length_take, Array.length_toList]; omega), List.take_take, Nat.min_self]
theorem wrap_succ (j : Nat) (h : j < 1099511627776) : wrap64 ((j : Int) + 1) = ((j + 1 : Nat) : Int) := by unfold wrap64; omega
set_option maxHeartbeats 8000000 in
set_option maxRecDepth 100000 in
theorem deleteB (p : S45 → Bool) (gf : Nat) (lb : Array Value) {base : Nat} {v : Value} {xs : List S45} {w : World} (HR : Kd.R k45 45 w base (fun _ => True) v xs) (hbase : base ≤ w.heap.size) (hl : xs.length < 2 ^ 40)
  (eg : ∀ args w, (callFunc gf args).run Try.prog w = .ok (.enter gf args) w)
  (hclo : ∀ (s : S45) (w1 : World), w.grownBy w1 v.ownBlock → Calls Try.prog gf (#[.agg #[.int .i64 s.f0, .int .i64 s.f1]] ++ lb) w1 fun e w' => e = .returned (.bool (p s)) ∧ Below w1.heap.size w1 w') :
  Calls Try.prog 59 #[v, .func (.func gf) #[] lb] w fun e w' => ∃ v1, e = .returned v1 ∧ Kd.R k45 45 w' base (fun _ => True) v1 (xs.filter fun x => !p x) ∧ w.grownBy w' v.ownBlock := by
 have hu45 := Try.underlying45; obtain ⟨A, c, rfl⟩ := Kd.R_slice HR; have hC := (Kd.R_reads' HR).2.2
 have hIX := indexB p gf lb A c xs w hC eg (fun s _ w1 hb => hclo s w1 (grown_of_below hb _))
 by_cases hf : firstB p xs 0 = -1
 ·have hall := firstB_none p xs 0 (Int.le_refl 0) hf
  have hfil : (xs.filter fun x => !p x) = xs := by rw [List.filter_eq_self]; intro x hx; rw [hall x hx]; rfl
  rw [hfil]
  rw [hf] at hIX
  have HR0 := aM HR; clear HR hC hclo hall hfil hl
  go_enter Try.func59, Try.ntmps59
  go_wp2_with (go_at_call 33; refine hIX.mono ?_; rintro e w2 ⟨rfl, hb2⟩)
  go_ret
  exact ⟨_, rfl, xB HR0.out hb2, grown_of_below hb2 _⟩
 ·obtain ⟨k, hk, e1, ht, hall⟩ := firstB_some p xs 0 (Int.le_refl 0) hf
  rw [Int.zero_add] at e1
  rw [e1] at hIX
  obtain ⟨g, cap, e2, hgb, hgw, hcn⟩ := Kd.R_form HR (by omega)
  cases e2
  obtain ⟨ho, hok⟩ := R_flat HR
  rcases ho.2 with ⟨e0, _⟩ | ⟨g', cap', cur, e0, hb', hg, hn, hm, hs, htk⟩
  ·cases e0
  injection e0 with e1' _ e3
  injection e1' with e1'
  injection e1' with e1'
  subst e1'; subst e3
  have hm' : c ≤ 9223372036854775807 := hm; have HD := aM (DelB.start htk hk hall ht); have HT := aM htk; have HG := aM hg; have HCLO := aM hclo
  have HLL := aM (show xs.length < 1099511627776 from hl)
  have HSZ := aM (And.intro hs (And.intro hn hb'))
  have hne1 : ((k : Int) == -1) = false := beq_eq_false_iff_ne.2 (by omega)
  clear HR hC hclo hall ht htk ho hok hg hl hf e1 hs hn hb' hm hgb
  go_enter Try.func59, Try.ntmps59
  go_wp2_with (go_at_call 33; refine hIX.mono ?_; rintro e w2 ⟨rfl, hb2⟩; have HG2 := aM (grown_of_below hb2 (some g)); have HB2 := aM (yB HG.out hb2); clear hb2 hIX)
  go_loopg [5, 6, 7] xs.length (fun kq v5 v6 v7 w' => ∃ (i j : Nat) (cu : Array Value), v5 = .int .i64 (i : Int) ∧ v6 = .int .i64 (j : Int) ∧ xs.length - j ≤ kq ∧ i < j ∧ Aside0 (DelB p xs xs.length cur cu i j) ∧ Aside0 (w'.heap[g]? = some (.cells cu 45 (0, 0))) ∧ Aside0 (w.grownBy w' (some g)))
  case atStart => exact ⟨k, k + 1, cur, rfl, by have h_ := HLL.out; rw [wrap_succ k (Nat.lt_trans hk h_)], by omega, Nat.lt_succ_self k, HD, HB2, HG2⟩
  case round =>
   obtain ⟨i, j, cu, rfl, rfl, hkq, hij, ID, IB, IG⟩ := hrel; have hjn := ID.out.le
   by_cases hlt : j < xs.length
   ·obtain ⟨hx0, hx1⟩ := ID.out.read HT.out hlt
    have hq0 : wr.cell? ⟨g, j * 2, none⟩ = some (.int .i64 xs[j].f0) := (yC IB.out _).trans hx0; have hq1 : wr.cell? ⟨g, j * 2 + 1, none⟩ = some (.int .i64 xs[j].f1) := (yC IB.out _).trans hx1; have hw1 : wrap64 ((j : Int) + 1) = ((j + 1 : Nat) : Int) := wrap_succ j (Nat.lt_trans hlt HLL.out); have p1 : 0 ≤ (j : Int) := Int.natCast_nonneg j; have q1 : (j : Int) < (xs.length : Int) := Int.ofNat_lt.mpr hlt
    generalize hy : xs[j] = y at hq0 hq1
    have HY := aM hy; have HW1 := aM hw1; have cl := HCLO.out y (wr.alloc (.cells #[.int .i64 y.f0, .int .i64 y.f1] 45)) (IG.out.trans (World.grownBy_alloc wr _ _)); clear hx0 hx1 hy hw1
    cases hp : p y with
    | true =>
     rw [hp] at cl
     have HP := aM hp; clear hp
     go_wp2_with (go_at_fn gf; refine cl.mono ?_; rintro e w3 ⟨rfl, hb3⟩; have IB3 := aM (yB (yA IB.out _) hb3); have IG3 := aM ((IG.out.trans (World.grownBy_alloc wr _ _)).trans (grown_of_below hb3 _)); clear hb3)
     go_roundg (xs.length - (j + 1))
     case measure => exact meas_lt hkq hlt
     case rel => exact ⟨i, j + 1, cu, rfl, by rw [HW1.out], Nat.le_refl _, Nat.lt_succ_of_lt hij, ⟨ID.out.skip rfl hlt (by rw [HY.out]; exact HP.out)⟩, IB3, IG3⟩
    | false =>
     rw [hp] at cl
     have HP := aM hp; clear hp
     obtain ⟨o0, ho0⟩ : ∃ o0, cu[i * 2]? = some o0 := ⟨_, Array.getElem?_eq_getElem (by rw [ID.out.size, HSZ.out.1]; have := HSZ.out.2.1; omega)⟩
     obtain ⟨o1, ho1⟩ : ∃ o1, cu[i * 2 + 1]? = some o1 := ⟨_, Array.getElem?_eq_getElem (by rw [ID.out.size, HSZ.out.1]; have := HSZ.out.2.1; omega)⟩
     have HO := aM (And.intro ho0 ho1); clear ho0 ho1; have pi1 : 0 ≤ (i : Int) := Int.natCast_nonneg i; have qi1 : (i : Int) < (xs.length : Int) := Int.ofNat_lt.mpr (Nat.lt_trans hij hlt)
     go_wp2_with (go_at_fn gf; refine cl.mono ?_; rintro e w3 ⟨rfl, hb3⟩; have IB3 := aM (yB (yA IB.out _) hb3); have IG3 := aM ((IG.out.trans (World.grownBy_alloc wr _ _)).trans (grown_of_below hb3 _)); have NB := yB (blk_new wr _) hb3; have hn0 : w3.cell? ⟨wr.heap.size, 0, none⟩ = some (.int .i64 y.f0) := (yC NB 0).trans rfl; have hn1 : w3.cell? ⟨wr.heap.size, 1, none⟩ = some (.int .i64 y.f1) := (yC NB 1).trans rfl; have ht0 : w3.cell? ⟨g, i * 2, none⟩ = some o0 := (yC IB3.out _).trans HO.out.1; have ht1 : w3.cell? ⟨g, i * 2 + 1, none⟩ = some o1 := (yC IB3.out _).trans HO.out.2; have hz0 := yZ IB3.out (i * 2); have hz1 := yZ IB3.out (i * 2 + 1); clear hb3 NB)
     have hgs : w3.heap[g]? = some (.cells cu 45 (0, 0)) := IB3.out
     go_roundg (xs.length - (j + 1))
     case measure => exact meas_lt hkq hlt
     case rel => exact ⟨i + 1, j + 1, _, by rw [wrap_succ i (Nat.lt_trans (Nat.lt_trans hij hlt) HLL.out)], by rw [HW1.out], Nat.le_refl _, Nat.succ_lt_succ hij, ⟨ID.out.keep rfl hlt (by rw [HSZ.out.1]; exact Nat.mul_le_mul_right 2 HSZ.out.2.1) y HY.out HP.out⟩, ⟨blk_set (blk_set hgs _ _) _ _⟩, ⟨(IG3.out.trans (grown_setCellB w3 g _ _)).trans (grown_setCellB _ g _ _)⟩⟩
   ·have hje : j = xs.length := Nat.le_antisymm hjn (Nat.not_lt.mp hlt)
    subst hje
    have hcl := clear_two (n := xs.length) ID.out HT.out HSZ.out.1 HSZ.out.2.1 hij IB.out; obtain ⟨R, hcl, hRs, hRt⟩ := hcl; have HRB := aM (setRow_heap wr g cu R 45 _ IB.out); have HRG := aM (IG.out.trans (grown_setRowL wr g R)); have HRX := aM (And.intro hRs hRt); have pi1 : 0 ≤ (i : Int) := Int.natCast_nonneg i; have qi1 : (i : Int) ≤ (xs.length : Int) := Int.ofNat_le.mpr (Nat.le_of_lt hij); have qi2 : i ≤ xs.length := Nat.le_of_lt hij; have qi3 : i ≤ c := Nat.le_trans qi2 HSZ.out.2.1; have hci : ¬ (c = i) := Nat.ne_of_gt (Nat.lt_of_lt_of_le hij HSZ.out.2.1); have hnum := aM ID.out.num; have hnl : ¬ ((xs.length : Int) < (xs.length : Int)) := Int.lt_irrefl _; clear hRs hRt hlt hjn hkq
    go_wp2_with (at_builtin; refine clear_step _ rfl _ 26 rfl _ rfl (hcl _) ?_)
    go_ret
    refine ⟨_, rfl, ?_, HRG.out⟩
    have e5 : (xs.filter fun x => !p x).length = i := by rw [hnum.out, List.take_length]
    rw [← e5]
    refine flat_R (xs := xs.filter fun x => !p x) ⟨flat_len _, .inr ⟨g, c, R, rfl, HSZ.out.2.2, HRB.out, by rw [e5]; exact qi3, hm', HRX.out.1, by rw [e5]; have q := HRX.out.2; rw [List.take_length] at q; exact q⟩⟩ (fun _ _ => trivial)
attribute [local go_sem high] eqA45
theorem neB_walk (y : S45) (gb : Nat) (x0 x1 : Int) (w : World) (hbx : w.heap[gb]? = some (.cells #[.int .i64 x0, .int .i64 x1] 45 (0, 0))) :
  Calls Try.prog 60 #[.agg #[.int .i64 y.f0, .int .i64 y.f1], .pointer (some ⟨gb, 0, none⟩)] w fun e w' => e = .returned (.bool (y.f0 == x0 && y.f1 == x1)) ∧ Below w.heap.size w w' := by
 have HX := aM hbx; have HB := aM (Below.refl w.heap.size w); clear hbx
 go_enter Try.func60, Try.ntmps60
 go_wp2_with (first | ((with_reducible refine gate_dst (N := 2) rfl ?_); refine bE 2 #[.int .i64 y.f0, .int .i64 y.f1] 45 ?_; intro gb1 hg w3 hbox hb; have n0_ := aM hb; have h0 : w3.cell? ⟨gb, 0, none⟩ = some (.int .i64 x0) := (yC (yB HX.out hb) 0).trans rfl; have h1 : w3.cell? ⟨gb, 1, none⟩ = some (.int .i64 x1) := (yC (yB HX.out hb) 1).trans rfl; have h2 : w3.cell? ⟨gb1, 0, none⟩ = some (.int .i64 y.f0) := (yC hbox 0).trans rfl; have h3 : w3.cell? ⟨gb1, 1, none⟩ = some (.int .i64 y.f1) := (yC hbox 1).trans rfl; clear hb hbox hg))
 all_goals go_ret
 all_goals exact ⟨by first | rfl | (simp; done) | (simp [*]; done), n0_.out⟩
def impl_lacking.f (l0 : List (S45)) (a1_0 : Int) (a1_1 : Int) : Option ((List (S45))) :=
 if l0.length < 1099511627776 then some (l0.filter fun y => !(y.f0 == a1_0 && y.f1 == a1_1)) else none
set_option maxHeartbeats 8000000 in
set_option maxRecDepth 100000 in
theorem impl_lacking.calls (A0 : Option Addr) (c0 : Nat) (l0 : List (S45)) (a1_0 : Int) (a1_1 : Int) (r : List (S45)) (w : World) (hr0 : Kd.C k45 w A0 l0.length l0) (hc0 : l0.length ≤ c0) (h : impl_lacking.f l0 a1_0 a1_1 = some r) :
  Calls Try.prog 36 #[.slice A0 l0.length c0, .agg #[.int .i64 a1_0, .int .i64 a1_1]] w fun e w' => ∃ v0_ : Value, e = .returned (v0_) ∧ Kd.R k45 45 w' w.heap.size (fun _ => True) v0_ r ∧ Below w.heap.size w w' := by
 unfold impl_lacking.f at h
 by_cases hl : l0.length < 1099511627776
 case neg => rw [if_neg hl] at h; cases h
 rw [if_pos hl] at h
 obtain rfl := Option.some.inj h; clear h; have LM := aM hl; have HR0 := aM hr0; have HC0 := aM hc0; clear hl hr0 hc0; have HB := aM (Below.refl w.heap.size w)
 have eg : ∀ args w, (callFunc 60 args).run Try.prog w = .ok (.enter 60 args) w := enters_of Try.func60 (by kernel_rfl) rfl
 go_enter Try.func36, Try.ntmps36
 go_wp2_with (first | ((with_reducible refine gate_dst (N := 3) rfl ?_); refine bE 3 #[.int .i64 a1_0, .int .i64 a1_1] 45 ?_; intro gb1 hg w3 hbox hb; replace HB := aM (zT (zH HB.out) hb); have BK1 := aM (hbox); clear hb hbox hg) | (go_at_call 35; refine (impl_Block_35.calls A0 c0 l0 l0 _ (cB HR0.out HB.out) HC0.out (by unfold impl_Block_35.f; rw [if_pos (by have := LM.out; omega)])).mono ?_; rintro e w4 ⟨v5, rfl, ho5, hb5⟩; have HO5 := aM ho5; have HS5 := aM (zZ hb5); have BK2 := aM (yB BK1.out hb5); have HN5 : Aside0 (some gb1 ≠ v5.ownBlock) := aM (fun e => absurd (Kd.R_base ho5 gb1 e.symm) (Nat.not_le_of_lt (blk_lt BK1.out))); have n0_ := aM (zT HB.out hb5); have HW := aM (xL ho5 (zZ HB.out)); clear HB; have HB := n0_; clear n0_ hb5 ho5) | (go_at_call 59; go_loud (refine (deleteB (fun y => y.f0 == a1_0 && y.f1 == a1_1) 60 #[.pointer (some ⟨gb1, 0, none⟩)] (base := w.heap.size) HW.out (zZ HB.out) (Nat.lt_of_lt_of_le LM.out (by decide)) eg (fun s w1 hg => neB_walk s gb1 a1_0 a1_1 w1 (blk_grown BK2.out hg HN5.out))).mono ?_); rintro e w6 ⟨v6, rfl, ho6, hg6⟩))
 go_ret
 exact ⟨v6, rfl, ho6, Below.grown HB.out hg6 (zZ HB.out) (fun k hk => Kd.R_base HW.out k hk)⟩


/-! ### impl_with: function 39 (by hand) -/
/-- the place that the search finds: rounds, lower and upper bound -/
def bsB (l : List S45) (t : Int) : Nat → Nat → Nat → Nat
 | 0, lo, _ => lo
 | n + 1, lo, hi => if lo < hi then (if (rd_T45 l (((lo + hi) / 2 : Nat) : Int)).f0 < t then bsB l t n ((lo + hi) / 2 + 1) hi else bsB l t n lo ((lo + hi) / 2)) else lo
theorem bsB_le (l : List S45) (t : Int) : ∀ (n lo hi : Nat), lo ≤ hi → bsB l t n lo hi ≤ hi
 | 0, _, _, h => h
 | n + 1, lo, hi, h => by
  rw [bsB]
  split
  ·split
   ·exact bsB_le l t n _ _ (by omega)
   ·exact Nat.le_trans (bsB_le l t n _ _ (by omega)) (by omega)
  ·exact h
theorem bsB_end (l : List S45) (t : Int) (n lo : Nat) : bsB l t n lo lo = lo := by
 cases n with
 | zero => rfl
 | succ n => rw [bsB, if_neg (by omega)]
/-- compareBlocks -/
def cmpP (a b : Int) : Int := if a < b then -1 else if a > b then 1 else 0
theorem cmpP_f (x0 x1 y0 y1 : Int) : impl_compareBlocks.f x0 x1 y0 y1 = some (cmpP x0 y0) := by
 unfold impl_compareBlocks.f cmp_Compare_int.f cmp_isNaN_int.f cmpP
 simp only [Option.bind_some, bne_self_eq_false]
 rw [if_neg (by decide), if_neg (by decide)]
 split
 ·rfl
 ·split <;> rfl
theorem cmpP_walk (x0 x1 y0 y1 : Int) (w : World) : Calls Try.prog 50 #[.agg #[.int .i64 x0, .int .i64 x1], .agg #[.int .i64 y0, .int .i64 y1]] w fun e w' => e = .returned (.int .i64 (cmpP x0 y0)) ∧ Below w.heap.size w w' :=
 impl_compareBlocks.calls _ _ _ _ _ _ (cmpP_f _ _ _ _)
theorem stepB {w W w2 : World} {gb1 : Nat} {p : Addr} {t0 t1 y0 y1 : Int} (hb : Below W.heap.size W w2) (h : W.cell? ⟨gb1, 0, none⟩ = some (.int .i64 t0) ∧ W.cell? ⟨gb1, 1, none⟩ = some (.int .i64 t1) ∧ W.cell? p = some (.int .i64 y0) ∧ W.cell? ⟨p.block, p.off + 1, none⟩ = some (.int .i64 y1) ∧ Below w.heap.size w W ∧ W.heap[gb1]? = some (.cells #[.int .i64 t0, .int .i64 t1] 45 (0, 0))) : w2.cell? ⟨gb1, 0, none⟩ = some (.int .i64 t0) ∧ w2.cell? ⟨gb1, 1, none⟩ = some (.int .i64 t1) ∧ w2.cell? p = some (.int .i64 y0) ∧ w2.cell? ⟨p.block, p.off + 1, none⟩ = some (.int .i64 y1) ∧ Below w.heap.size w w2 ∧ w2.heap[gb1]? = some (.cells #[.int .i64 t0, .int .i64 t1] 45 (0, 0)) := by
 obtain ⟨h1, h2, h3, h4, h5, h6⟩ := h
 exact ⟨(hb.cell (World.block_lt_of_cell? _ _ h1)).trans h1, (hb.cell (World.block_lt_of_cell? _ _ h2)).trans h2, (hb.cell (World.block_lt_of_cell? _ _ h3)).trans h3, (hb.cell (World.block_lt_of_cell? _ _ h4)).trans h4, zT h5 hb, yB h6 hb⟩
set_option maxHeartbeats 8000000 in
set_option maxRecDepth 100000 in
theorem searchB (A0 : Option Addr) (c0 : Nat) (l0 : List S45) (t0 t1 : Int) (w : World) (hr0 : Kd.C k45 w A0 l0.length l0) (hl : l0.length < 2 ^ 60) :
  Calls Try.prog 62 #[.slice A0 l0.length c0, .agg #[.int .i64 t0, .int .i64 t1], .func (.func 50) #[] #[]] w fun e w' => ∃ b : Bool, e = .returned (.tuple #[.int .i64 ((bsB l0 t0 l0.length 0 l0.length : Nat) : Int), .bool b]) ∧ Below w.heap.size w w' := by
 have hu45 := Try.underlying45
 have eg : ∀ args w, (callFunc 50 args).run Try.prog w = .ok (.enter 50 args) w := enters_of Try.func50 (by kernel_rfl) rfl
 have HR0 := aM hr0; have HL := aM hl; clear hr0 hl; have HB := aM (Below.refl w.heap.size w)
 go_enter Try.func62, Try.ntmps62
 go_wp2_with (first | ((with_reducible refine gate_dst (N := 4) rfl ?_); refine bE 4 #[.int .i64 t0, .int .i64 t1] 45 ?_; intro gb1 hg w3 hbox hb; replace HB := aM (zT (zH HB.out) hb); have BK1 := aM (hbox); clear hb hbox hg))
 go_loopg [9, 10] l0.length (fun kq v9 v10 w' => ∃ lo hi : Nat, v9 = .int .i64 (lo : Int) ∧ v10 = .int .i64 (hi : Int) ∧ lo ≤ hi ∧ hi ≤ l0.length ∧ hi - lo ≤ kq ∧ Aside0 (bsB l0 t0 l0.length 0 l0.length = bsB l0 t0 kq lo hi) ∧ Aside0 (w'.heap[gb1]? = some (.cells #[.int .i64 t0, .int .i64 t1] 45 (0, 0))) ∧ Aside0 (Below w.heap.size w w'))
 case atStart => exact ⟨0, l0.length, rfl, rfl, Nat.zero_le _, Nat.le_refl _, by omega, ⟨rfl⟩, ⟨yH BK1.out⟩, ⟨zH HB.out⟩⟩
 case round =>
  clear HB BK1; obtain ⟨lo, hi, rfl, rfl, hlh, hin, hg, HA, BK1, HB⟩ := hrel; have hc1_0 : wr.cell? ⟨gb1, 0, none⟩ = some (.int .i64 t0) := yc BK1.out 0; have hc1_1 : wr.cell? ⟨gb1, 1, none⟩ = some (.int .i64 t1) := yc BK1.out 1; have hf1_0 := yZ BK1.out 0; have hf1_1 := yZ BK1.out 1
  by_cases hlt : lo < hi
  ·cases gk with
   | zero => omega
   | succ k1 =>
    have hm : (lo + hi) / 2 < l0.length := by omega
    obtain ⟨ad1, e1, hx1_0, hx1_1⟩ := at_T45 (cB HR0.out HB.out) (((lo + hi) / 2 : Nat) : Int) (by omega) (by omega)
    cases e1
    rw [Int.toNat_natCast] at hx1_0 hx1_1
    have hL : l0.length < 2 ^ 60 := HL.out
    have pI : (0 : Int) ≤ ((lo : Int) + (hi : Int)) / 2 := by omega
    have qI : ((lo : Int) + (hi : Int)) / 2 < (l0.length : Int) := by omega
    have tI : (((lo : Int) + (hi : Int)) / 2).toNat = (lo + hi) / 2 := by omega
    have hst : bsB l0 t0 (k1 + 1) lo hi = if (rd_T45 l0 (((lo + hi) / 2 : Nat) : Int)).f0 < t0 then bsB l0 t0 k1 ((lo + hi) / 2 + 1) hi else bsB l0 t0 k1 lo ((lo + hi) / 2) := by rw [bsB, if_pos hlt]
    generalize rd_T45 l0 (((lo + hi) / 2 : Nat) : Int) = y at hx1_0 hx1_1 hst
    have hc := cmpP_walk y.f0 y.f1 t0 t1
    by_cases hyx : y.f0 < t0
    ·have hcv : cmpP y.f0 t0 = -1 := by unfold cmpP; rw [if_pos hyx]
     rw [hcv] at hc
     rw [if_pos hyx] at hst
     have HA2 := aM (HA.out.trans hst)
     have HC : Aside0 (∀ W : World, (W.cell? ⟨gb1, 0, none⟩ = some (.int .i64 t0) ∧ W.cell? ⟨gb1, 1, none⟩ = some (.int .i64 t1) ∧ W.cell? (ad1.add ((lo + hi) / 2 * 2)) = some (.int .i64 y.f0) ∧ W.cell? ⟨(ad1.add ((lo + hi) / 2 * 2)).block, (ad1.add ((lo + hi) / 2 * 2)).off + 1, none⟩ = some (.int .i64 y.f1) ∧ Below w.heap.size w W ∧ W.heap[gb1]? = some (.cells #[.int .i64 t0, .int .i64 t1] 45 (0, 0))) → Calls Try.prog 50 #[.agg #[.int .i64 y.f0, .int .i64 y.f1], .agg #[.int .i64 t0, .int .i64 t1]] W fun e w' => e = .returned (.int .i64 (-1)) ∧ w'.cell? ⟨gb1, 0, none⟩ = some (.int .i64 t0) ∧ w'.cell? ⟨gb1, 1, none⟩ = some (.int .i64 t1) ∧ w'.cell? (ad1.add ((lo + hi) / 2 * 2)) = some (.int .i64 y.f0) ∧ w'.cell? ⟨(ad1.add ((lo + hi) / 2 * 2)).block, (ad1.add ((lo + hi) / 2 * 2)).off + 1, none⟩ = some (.int .i64 y.f1) ∧ Below w.heap.size w w' ∧ w'.heap[gb1]? = some (.cells #[.int .i64 t0, .int .i64 t1] 45 (0, 0))) := ⟨fun W hS => (hc W).mono fun e w' h => ⟨h.1, stepB h.2 hS⟩⟩
     clear hc hst hcv hyx HA
     go_wp2_with fail
     have hd5 : Below w.heap.size w wr.drew := zD HB.out; have hd6 : wr.drew.heap[gb1]? = some (.cells #[.int .i64 t0, .int .i64 t1] 45 (0, 0)) := BK1.out
     go_region_held3 (fun w' => w'.cell? ⟨gb1, 0, none⟩ = some (.int .i64 t0) ∧ w'.cell? ⟨gb1, 1, none⟩ = some (.int .i64 t1) ∧ w'.cell? (ad1.add ((lo + hi) / 2 * 2)) = some (.int .i64 y.f0) ∧ w'.cell? ⟨(ad1.add ((lo + hi) / 2 * 2)).block, (ad1.add ((lo + hi) / 2 * 2)).off + 1, none⟩ = some (.int .i64 y.f1) ∧ Below w.heap.size w w' ∧ w'.heap[gb1]? = some (.cells #[.int .i64 t0, .int .i64 t1] 45 (0, 0))) (go_keep)
      (first | (go_at_call 50; refine (HC.out _ (by simp [*])).mono ?_; rintro e w2 ⟨rfl, s1, s2, s3, s4, s5, s6⟩))
     go_wp2
     go_roundg k1
     case measure => omega
     case rel => exact ⟨(lo + hi) / 2 + 1, hi, by rw [show ((lo : Int) + (hi : Int)) / 2 + 1 = (((lo + hi) / 2 + 1 : Nat) : Int) by omega], rfl, by omega, hin, by omega, HA2, ⟨by refine yW ?_; assumption⟩, ⟨by repeat (first | assumption | apply zD | apply zN)⟩⟩
    ·have hcv : ¬ cmpP y.f0 t0 < 0 := by unfold cmpP; rw [if_neg hyx]; split <;> omega
     generalize cmpP y.f0 t0 = cv at hc hcv
     rw [if_neg hyx] at hst
     have HA2 := aM (HA.out.trans hst)
     have HC : Aside0 (∀ W : World, (W.cell? ⟨gb1, 0, none⟩ = some (.int .i64 t0) ∧ W.cell? ⟨gb1, 1, none⟩ = some (.int .i64 t1) ∧ W.cell? (ad1.add ((lo + hi) / 2 * 2)) = some (.int .i64 y.f0) ∧ W.cell? ⟨(ad1.add ((lo + hi) / 2 * 2)).block, (ad1.add ((lo + hi) / 2 * 2)).off + 1, none⟩ = some (.int .i64 y.f1) ∧ Below w.heap.size w W ∧ W.heap[gb1]? = some (.cells #[.int .i64 t0, .int .i64 t1] 45 (0, 0))) → Calls Try.prog 50 #[.agg #[.int .i64 y.f0, .int .i64 y.f1], .agg #[.int .i64 t0, .int .i64 t1]] W fun e w' => e = .returned (.int .i64 cv) ∧ w'.cell? ⟨gb1, 0, none⟩ = some (.int .i64 t0) ∧ w'.cell? ⟨gb1, 1, none⟩ = some (.int .i64 t1) ∧ w'.cell? (ad1.add ((lo + hi) / 2 * 2)) = some (.int .i64 y.f0) ∧ w'.cell? ⟨(ad1.add ((lo + hi) / 2 * 2)).block, (ad1.add ((lo + hi) / 2 * 2)).off + 1, none⟩ = some (.int .i64 y.f1) ∧ Below w.heap.size w w' ∧ w'.heap[gb1]? = some (.cells #[.int .i64 t0, .int .i64 t1] 45 (0, 0))) := ⟨fun W hS => (hc W).mono fun e w' h => ⟨h.1, stepB h.2 hS⟩⟩
     clear hc hst hyx HA
     go_wp2_with fail
     have hd5 : Below w.heap.size w wr.drew := zD HB.out; have hd6 : wr.drew.heap[gb1]? = some (.cells #[.int .i64 t0, .int .i64 t1] 45 (0, 0)) := BK1.out
     go_region_held3 (fun w' => w'.cell? ⟨gb1, 0, none⟩ = some (.int .i64 t0) ∧ w'.cell? ⟨gb1, 1, none⟩ = some (.int .i64 t1) ∧ w'.cell? (ad1.add ((lo + hi) / 2 * 2)) = some (.int .i64 y.f0) ∧ w'.cell? ⟨(ad1.add ((lo + hi) / 2 * 2)).block, (ad1.add ((lo + hi) / 2 * 2)).off + 1, none⟩ = some (.int .i64 y.f1) ∧ Below w.heap.size w w' ∧ w'.heap[gb1]? = some (.cells #[.int .i64 t0, .int .i64 t1] 45 (0, 0))) (go_keep)
      (first | (go_at_call 50; refine (HC.out _ (by simp [*])).mono ?_; rintro e w2 ⟨rfl, s1, s2, s3, s4, s5, s6⟩))
     go_wp2
     go_roundg k1
     case measure => omega
     case rel => exact ⟨lo, (lo + hi) / 2, rfl, by rw [show ((lo : Int) + (hi : Int)) / 2 = (((lo + hi) / 2 : Nat) : Int) by omega], by omega, by omega, by omega, HA2, ⟨by refine yW ?_; assumption⟩, ⟨by repeat (first | assumption | apply zD | apply zN)⟩⟩
  ·obtain rfl : hi = lo := by omega
   have HE := aM (HA.out.trans (bsB_end l0 t0 gk hi)); clear HA
   by_cases hn : hi < l0.length
   ·obtain ⟨ad1, e1, hx1_0, hx1_1⟩ := at_T45 (cB HR0.out HB.out) (hi : Int) (by omega) (by omega)
    cases e1
    rw [Int.toNat_natCast] at hx1_0 hx1_1
    have hL : l0.length < 2 ^ 60 := HL.out
    generalize rd_T45 l0 (hi : Int) = y at hx1_0 hx1_1
    have hc := cmpP_walk y.f0 y.f1 t0 t1
    generalize cmpP y.f0 t0 = cv at hc
    have HC : Aside0 (∀ W : World, (W.cell? ⟨gb1, 0, none⟩ = some (.int .i64 t0) ∧ W.cell? ⟨gb1, 1, none⟩ = some (.int .i64 t1) ∧ W.cell? (ad1.add (hi * 2)) = some (.int .i64 y.f0) ∧ W.cell? ⟨(ad1.add (hi * 2)).block, (ad1.add (hi * 2)).off + 1, none⟩ = some (.int .i64 y.f1) ∧ Below w.heap.size w W ∧ W.heap[gb1]? = some (.cells #[.int .i64 t0, .int .i64 t1] 45 (0, 0))) → Calls Try.prog 50 #[.agg #[.int .i64 y.f0, .int .i64 y.f1], .agg #[.int .i64 t0, .int .i64 t1]] W fun e w' => e = .returned (.int .i64 cv) ∧ w'.cell? ⟨gb1, 0, none⟩ = some (.int .i64 t0) ∧ w'.cell? ⟨gb1, 1, none⟩ = some (.int .i64 t1) ∧ w'.cell? (ad1.add (hi * 2)) = some (.int .i64 y.f0) ∧ w'.cell? ⟨(ad1.add (hi * 2)).block, (ad1.add (hi * 2)).off + 1, none⟩ = some (.int .i64 y.f1) ∧ Below w.heap.size w w' ∧ w'.heap[gb1]? = some (.cells #[.int .i64 t0, .int .i64 t1] 45 (0, 0))) := ⟨fun W hS => (hc W).mono fun e w' h => ⟨h.1, stepB h.2 hS⟩⟩
    clear hc; have hd5 : Below w.heap.size w wr.drew := zD HB.out; have hd6 : wr.drew.heap[gb1]? = some (.cells #[.int .i64 t0, .int .i64 t1] 45 (0, 0)) := BK1.out
    go_wp2_with fail
    go_region_held3 (fun w' => w'.cell? ⟨gb1, 0, none⟩ = some (.int .i64 t0) ∧ w'.cell? ⟨gb1, 1, none⟩ = some (.int .i64 t1) ∧ w'.cell? (ad1.add (hi * 2)) = some (.int .i64 y.f0) ∧ w'.cell? ⟨(ad1.add (hi * 2)).block, (ad1.add (hi * 2)).off + 1, none⟩ = some (.int .i64 y.f1) ∧ Below w.heap.size w w' ∧ w'.heap[gb1]? = some (.cells #[.int .i64 t0, .int .i64 t1] 45 (0, 0))) (go_keep)
     (first | (go_at_call 50; refine (HC.out _ (by simp [*])).mono ?_; rintro e w2 ⟨rfl, s1, s2, s3, s4, s5, s6⟩))
    go_wp2
    go_ret2
    exact ⟨cv == 0, by rw [HE.out]; rfl, by repeat (first | assumption | apply zD | apply zN)⟩
   ·have hd5 : Below w.heap.size w wr.drew := zD HB.out
    have hnb : decide ((hi : Int) < (l0.length : Int)) = false := decide_eq_false (by omega)
    go_wp2
    go_region
    go_wp2
    go_ret2
    exact ⟨false, by rw [HE.out]; rfl, by repeat (first | assumption | exact HB.out | apply zD | apply zN)⟩
/-! #### slices.Insert -/
theorem copyK (w : World) (dT sT ty elem : TypeId) (k g o dLen dCap : Nat) (a : Addr) (sLen sCap : Nat) (cur : Array Value) (t : TypeId) (cs : List Value) {P : Program}
  (hu : P.underlying dT = some (.slice elem)) (hs : (P.info? elem).map (·.size) = some k)
  (hg : w.heap[g]? = some (.cells cur t (0, 0))) (hn : cs.length = Nat.min sLen dLen * k)
  (hsrc : ∀ j v, cs[j]? = some v → w.cell? (a.add j) = some v) (hfit : o + cs.length ≤ cur.size) (h1 : ∀ v ∈ cs, v.oneCell' = true) :
  (Builtin.copy_ #[dT, sT] ty #[.slice (some ⟨g, o, none⟩) dLen dCap, .slice (some a) sLen sCap]).run P w =
   .ok (goInt (Nat.min sLen dLen)) (w.setRow g (cur.toList.take o ++ cs ++ cur.toList.drop (o + cs.length)).toArray) := by
 have hl := run_loadCells_list (P := P) w a cs hsrc
 have hst := run_storeCells_at P g o t cs 0 cur w hg (by simpa using hfit) h1
 cases hq : P.info? elem with
 | none => simp [hq] at hs
 | some i =>
  have hi : i.size = k := by simpa [hq] using hs
  simp [Builtin.copy_, run_underlying hu, Builtin.lenOf, Builtin.firstCells, sizeOf, typeInfo, hq, hi, ← hn, hl, hst]
theorem copy_step {P : Program} (w : World) {ops : Array Oper} {rest : List Oper} {o : Oper} {a : Act} {Q : Exit → Act → World → Prop} (hgd : o.guard = none) (d s : Operand) (t t' : TypeId)
  (ho : o.op = .call { callee := .builtin .copy, args := #[d, s], argTypes := #[t, t'] }) (v u : Value) (hd : a.eval d = v) (hs : a.eval s = u) {v' : Value} {w' : World}
  (hr : (Builtin.copy_ #[t, t'] o.type #[v, u]).run P w = .ok v' w') (h : wpList P ops Q rest (a.put o.dst v') w') : wpList P ops Q (o :: rest) a w := by
 refine Kd.event_run hgd (w1 := w') (v := v') ?_ h
 unfold execOp
 simp only [ho, resolve, invoke, builtin, Sem.run_bind, Sem.run_pure, Result.andThen_ok, List.map_toArray, List.map_cons, List.map_nil, hd, hs, hr]
theorem copy_region {P : Program} {ops : Array Oper} {o : Oper} {a : Act} {w : World} {K : Act → World → Prop} {Q : Exit → Act → World → Prop} {E : Prop}
  (hg : o.guard = none) (d x : Operand) (dT sT : TypeId) (hop : o.op = Op.call { callee := Callee.builtin Builtin.copy, args := #[d, x], argTypes := #[dT, sT] })
  (v u : Value) (hd : a.eval d = v) (hx : a.eval x = u) {v' : Value} {w' : World} (hr : (Builtin.copy_ #[dT, sT] o.type #[v, u]).run P w = .ok v' w') (hK : K (a.put o.dst v') w') :
  if Region.wanted o (yielded ops a.tmps) = true then Oper.wp P o a w K Q else E := by
 have hw : Region.wanted o (yielded ops a.tmps) = true := by simp [Region.wanted, hg]
 rw [if_pos hw]
 unfold Oper.wp
 simp [execOp, hop, resolve, invoke, builtin, hd, hx, hr, Result.andThen]
 exact hK
set_option maxHeartbeats 8000000 in
set_option maxRecDepth 100000 in
theorem insB_room (g cap n i vb : Nat) (cur : Array Value) (x0 x1 : Int) (w : World) (hg : w.heap[g]? = some (.cells cur 45 (0, 0))) (hcap : cap * 2 ≤ cur.size) (hi : i < n) (hroom : n + 1 ≤ cap) (hc63 : cap ≤ 9223372036854775807)
  (hvb : w.heap[vb]? = some (.cells #[.int .i64 x0, .int .i64 x1] 45 (0, 0))) (hne : vb ≠ g) (h1 : ∀ v ∈ (cur.toList.drop (i * 2)).take ((n - i) * 2), v.oneCell' = true) :
  Calls Try.prog 63 #[.slice (some ⟨g, 0, none⟩) n cap, .int .i64 i, .slice (some ⟨vb, 0, none⟩) 1 1] w fun e w' =>
   e = .returned (.slice (some ⟨g, 0, none⟩) (n + 1) cap) ∧ ∃ R1 R2 : Array Value, R1 = (cur.toList.take ((i + 1) * 2) ++ (cur.toList.drop (i * 2)).take ((n - i) * 2) ++ cur.toList.drop ((i + 1) * 2 + (n - i) * 2)).toArray ∧ R2 = (R1.toList.take (i * 2) ++ [Value.int .i64 x0, Value.int .i64 x1] ++ R1.toList.drop (i * 2 + 2)).toArray ∧ w' = (w.drew.setRow g R1).setRow g R2 := by
 have hu45 := Try.underlying45
 have hov : ∀ lb cb off, (callFunc 70 #[.slice (some ⟨vb, 0, none⟩) 1 1, .slice (some ⟨g, off, none⟩) lb cb]).run Try.prog w = .ok (.value (.bool false)) w := fun lb cb off => by
  rw [run_callFunc_extern Try.func70 (by kernel_rfl) (by kernel_rfl) (by kernel_rfl) (e := Extern.SlicesOverlaps.overlaps #[26, 26] #[4]) (by kernel_rfl),
   Lib.run_overlaps_apart w 26 4 45 Try.underlying26 2 Try.sizeOf45 ⟨vb, 0, none⟩ ⟨g, off, none⟩ 1 1 lb cb hne 45 45 2 cur.size (by simp [World.shape?, hvb]) (by simp [World.shape?, hg]) (by omega) (yZ hvb 0) (yZ hvb 2)]
  rfl
 have hl0 : ((cur.toList.drop (i * 2)).take ((n - i) * 2)).length = (n - i) * 2 := by rw [List.length_take, List.length_drop, Array.length_toList]; omega
 have hcp1 : ∀ ty dc sc, (Builtin.copy_ #[26, 26] ty #[.slice (some ⟨g, (i + 1) * 2, none⟩) (n - i) dc, .slice (some ⟨g, i * 2, none⟩) (n + 1 - i) sc]).run Try.prog w.drew = .ok (goInt ((n - i : Nat) : Int)) (w.drew.setRow g (cur.toList.take ((i + 1) * 2) ++ (cur.toList.drop (i * 2)).take ((n - i) * 2) ++ cur.toList.drop ((i + 1) * 2 + (n - i) * 2)).toArray) := fun ty dc sc => by
  have hsrc : ∀ j v, ((cur.toList.drop (i * 2)).take ((n - i) * 2))[j]? = some v → w.drew.cell? ((⟨g, i * 2, none⟩ : Addr).add j) = some v := fun j v hj => by
   have hj2 : j < (n - i) * 2 := by
    rcases Nat.lt_or_ge j ((n - i) * 2) with h | h
    ·exact h
    ·rw [List.getElem?_eq_none (by rw [hl0]; exact h)] at hj; cases hj
   rw [List.getElem?_take, if_pos hj2, List.getElem?_drop, Array.getElem?_toList] at hj
   rw [Addr.add_lit]
   exact (yC hg (i * 2 + j)).trans hj
  have h := copyK w.drew 26 26 ty 45 2 g ((i + 1) * 2) (n - i) dc ⟨g, i * 2, none⟩ (n + 1 - i) sc cur 45 ((cur.toList.drop (i * 2)).take ((n - i) * 2)) Try.underlying26 (by kernel_rfl) hg (by rw [hl0]; simp only [Nat.min_def]; split <;> omega) hsrc (by rw [hl0]; omega) h1
  rw [hl0] at h
  rw [h]
  have e : Nat.min (n + 1 - i) (n - i) = n - i := by simp only [Nat.min_def]; split <;> omega
  rw [e]
 obtain ⟨R1, hR1⟩ : ∃ R1 : Array Value, R1 = (cur.toList.take ((i + 1) * 2) ++ (cur.toList.drop (i * 2)).take ((n - i) * 2) ++ cur.toList.drop ((i + 1) * 2 + (n - i) * 2)).toArray := ⟨_, rfl⟩
 rw [← hR1] at hcp1
 have hR1l : R1.size = cur.size := by rw [hR1, List.size_toArray, List.length_append, List.length_append, hl0, List.length_take, List.length_drop, Array.length_toList]; omega
 have hg1 : (w.drew.setRow g R1).heap[g]? = some (.cells R1 45 (0, 0)) := setRow_heap w.drew g cur R1 45 _ hg
 have hv1 : (w.drew.setRow g R1).heap[vb]? = some (.cells #[.int .i64 x0, .int .i64 x1] 45 (0, 0)) := by
  show (w.heap.modify g _)[vb]? = _
  rw [Array.getElem?_modify, if_neg (fun e => hne e.symm)]
  exact hvb
 have hcp2 : ∀ ty dc, (Builtin.copy_ #[26, 26] ty #[.slice (some ⟨g, i * 2, none⟩) (n + 1 - i) dc, .slice (some ⟨vb, 0, none⟩) 1 1]).run Try.prog (w.drew.setRow g R1) = .ok (goInt 1) ((w.drew.setRow g R1).setRow g (R1.toList.take (i * 2) ++ [Value.int .i64 x0, Value.int .i64 x1] ++ R1.toList.drop (i * 2 + 2)).toArray) := fun ty dc => by
  have hsrc : ∀ j v, [Value.int .i64 x0, Value.int .i64 x1][j]? = some v → (w.drew.setRow g R1).cell? ((⟨vb, 0, none⟩ : Addr).add j) = some v := fun j v hj => by
   rw [Addr.add_lit, Nat.zero_add]
   refine (yC hv1 j).trans ?_
   simpa using hj
  have h := copyK (w.drew.setRow g R1) 26 26 ty 45 2 g (i * 2) (n + 1 - i) dc ⟨vb, 0, none⟩ 1 1 R1 45 [Value.int .i64 x0, Value.int .i64 x1] Try.underlying26 (by kernel_rfl) hg1 (by show 2 = _; simp only [Nat.min_def]; split <;> omega) hsrc (by show i * 2 + 2 ≤ _; omega) (fun v hv => by simp at hv; rcases hv with rfl | rfl <;> rfl)
  rw [h]
  have e : Nat.min 1 (n + 1 - i) = 1 := by simp only [Nat.min_def]; split <;> omega
  rw [e]
  rfl
 obtain ⟨R2, hR2⟩ : ∃ R2 : Array Value, R2 = (R1.toList.take (i * 2) ++ [Value.int .i64 x0, Value.int .i64 x1] ++ R1.toList.drop (i * 2 + 2)).toArray := ⟨_, rfl⟩
 rw [← hR2] at hcp2
 have HR := aM (And.intro hR1 hR2); clear hR1 hR2 hl0 hR1l hg1 hv1 hcap h1
 go_enter Try.func63, Try.ntmps63
 have hz2 : ¬ ((i : Int) = (n : Int)) := by omega
 have hw1 : IntKind.i64.wrap ((i : Int) + 1) = (i : Int) + 1 := by rw [IntKind.wrap_i64]; omega
 have hw2 : IntKind.i64.wrap ((n : Int) + 1) = (n : Int) + 1 := by rw [IntKind.wrap_i64]; omega
 have hb1 : (0 : Int) ≤ (i : Int) + 1 := by omega
 have hin : i ≤ n := by omega
 have htn : ((i : Int) + 1).toNat = i + 1 := by omega
 have htm : ((n : Int) + 1).toNat = n + 1 := by omega
 have hb2 : ¬ (cap = i + 1) := by omega
 have hb3 : (i : Int) ≤ (n : Int) + 1 := by omega
 have hb4 : ¬ (cap = i) := by omega
 have mixed : Try.prog.follows .mixedOrders = true := by kernel_rfl
 go_wp2_with (simp only [hov])
 go_region_law_o (refine copy_region rfl _ _ 26 26 rfl _ _ (by simp [Act.eval, Act.put]) (by simp [Act.eval, Act.put]) (hcp1 _ _ _) ?_)
 go_wp2_with (at_builtin; refine copy_step _ rfl _ _ 26 26 rfl _ _ rfl rfl (hcp2 _ _) ?_)
 go_ret
 exact ⟨rfl, R1, R2, HR.out.1, HR.out.2, rfl⟩
set_option maxHeartbeats 8000000 in
set_option maxRecDepth 100000 in
theorem insB_grow (g cap n i vb : Nat) (cur : Array Value) (x0 x1 : Int) (w : World) (hg : w.heap[g]? = some (.cells cur 45 (0, 0))) (hcap : cap * 2 ≤ cur.size) (hi : i < n) (hnc : n ≤ cap) (hroom : cap < n + 1) (hbig : n < 2 ^ 40)
  (hvb : w.heap[vb]? = some (.cells #[.int .i64 x0, .int .i64 x1] 45 (0, 0))) (h1 : ∀ v ∈ (cur.toList.drop (i * 2)).take ((n - i) * 2), v.oneCell' = true) :
  Calls Try.prog 63 #[.slice (some ⟨g, 0, none⟩) n cap, .int .i64 i, .slice (some ⟨vb, 0, none⟩) 1 1] w fun e w' =>
   ∃ (G : Nat) (Z R0 R1 R2 : Array Value), e = .returned (.slice (some ⟨w.heap.size, 0, none⟩) (n + 1) G) ∧ n + 1 ≤ G ∧ G ≤ 9223372036854775807 ∧ Z.size = (G - i) * 2 ∧ R0 = (cur.toList.take (i * 2)).toArray ++ Z ∧ R1 = (R0.toList.take (i * 2) ++ [Value.int .i64 x0, Value.int .i64 x1] ++ R0.toList.drop (i * 2 + 2)).toArray ∧ R2 = (R1.toList.take ((i + 1) * 2) ++ (cur.toList.drop (i * 2)).take ((n - i) * 2) ++ R1.toList.drop ((i + 1) * 2 + (n - i) * 2)).toArray ∧ w' = (((w.drew.alloc (.cells R0 45)).setRow w.heap.size R1).drew).setRow w.heap.size R2 := by
 have hu45 := Try.underlying45
 have mixed : Try.prog.follows .mixedOrders = true := by kernel_rfl
 obtain ⟨i0, hi0, hz0, hzs, hzb⟩ : ∃ i0, Try.prog.info? 45 = some i0 ∧ i0.zero = some (.agg #[.int .i64 0, .int .i64 0]) ∧ i0.size = 2 ∧ i0.bytes = 16 := by
  have h : (Try.prog.info? 45).map (fun i => (i.zero, i.size, i.bytes)) = some (some (.agg #[.int .i64 0, .int .i64 0]), 2, 16) := by kernel_rfl
  obtain ⟨i, hi, hzz⟩ := Option.map_eq_some_iff.1 h
  simp only [Prod.mk.injEq] at hzz
  exact ⟨i, hi, hzz.1, hzz.2.1, hzz.2.2⟩
 have hgw : g < w.heap.size := blk_lt hg; have hvw : vb < w.heap.size := blk_lt hvb
 have hl0 : ((cur.toList.drop (i * 2)).take ((n - i) * 2)).length = (n - i) * 2 := by rw [List.length_take, List.length_drop, Array.length_toList]; omega
 have hold : (Builtin.firstCells i0.size i (.slice (some ⟨g, 0, none⟩) i cap)).run Try.prog w.drew = .ok (cur.toList.take (i * 2)).toArray w.drew := by
  rw [hzs]
  exact run_firstCells_some w.drew 2 i ⟨g, 0, none⟩ i cap (cur.toList.take (i * 2)) (by rw [List.length_take, Array.length_toList]; omega) (fun j v hj => by
   rw [Addr.add_lit, Nat.zero_add]
   rw [List.getElem?_take] at hj
   split at hj
   ·rw [Array.getElem?_toList] at hj
    exact (yC hg j).trans hj
   ·cases hj)
 have hkk : (n : Int) + 1 - (i : Int) = ((n + 1 - i : Nat) : Int) := by omega
 have hik : i + (n + 1 - i) = n + 1 := by omega
 obtain ⟨G, hG⟩ : ∃ G, G = grownCap w (n + 1) cap 45 := ⟨_, rfl⟩; obtain ⟨Z, hZ⟩ : ∃ Z : Array Value, Z = Builtin.zeroCells (Value.agg #[.int .i64 0, .int .i64 0]).cells (n + 1 - i) ++ Builtin.zeroCells (Value.agg #[.int .i64 0, .int .i64 0]).cells (G - (n + 1)) := ⟨_, rfl⟩; obtain ⟨R0, hR0⟩ : ∃ R0 : Array Value, R0 = (cur.toList.take (i * 2)).toArray ++ Z := ⟨_, rfl⟩
 have hrz : ∀ ty, (Builtin.append_ #[26, 3] ty #[.slice (some ⟨g, 0, none⟩) i cap, .int .i64 ((n : Int) + 1 - (i : Int))]).run Try.prog w =
   .ok (.slice (some ⟨w.heap.size, 0, none⟩) (n + 1) G) (w.drew.alloc (.cells R0 45)) := fun ty => by
  have h := Lib.run_append_grow_zeros w 26 3 ty 45 i0 _ .i64 .i64 Try.underlying26 Try.underlying3 hi0 hz0 (some ⟨g, 0, none⟩) i cap (cur.toList.take (i * 2)) hold (n + 1 - i) (by omega) (by omega) (by omega) (by omega) (by rw [hzb]; omega) (by rw [hzb, hik]; exact growslice_fits hroom (by omega))
  rw [hik] at h
  rw [hkk, hR0, hZ, hG, ← Array.append_assoc]
  exact h
 have hGn : n + 1 ≤ G := by rw [hG]; exact grownCap_ge w _ _ _
 have hG63 : G ≤ 9223372036854775807 := by
  have := grownCap_le_maxLen w (n + 1) cap 45 (by unfold maxLen; omega)
  rw [← hG] at this
  unfold maxLen at this
  omega
 have hZs : Z.size = (G - i) * 2 := by
  rw [hZ]
  simp [Builtin.zeroCells, Value.cells]
  omega
 clear hZ hG
 have hR0s : R0.size = G * 2 := by
  rw [hR0, Array.size_append, List.size_toArray, List.length_take, Array.length_toList, hZs]
  omega
 obtain ⟨W1, hW1⟩ : ∃ W1, W1 = w.drew.alloc (.cells R0 45) := ⟨_, rfl⟩
 rw [← hW1] at hrz
 have hb1 : W1.heap[w.heap.size]? = some (.cells R0 45 (0, 0)) := by rw [hW1]; show (w.heap.push _)[w.heap.size]? = _; simp
 have ho1 : ∀ k, k < w.heap.size → W1.heap[k]? = w.heap[k]? := fun k hk => by rw [hW1]; exact Below.heap_alloc w.drew _ k hk
 have hv1 : W1.heap[vb]? = some (.cells #[.int .i64 x0, .int .i64 x1] 45 (0, 0)) := (ho1 vb hvw).trans hvb
 have hcpA : ∀ ty dc, (Builtin.copy_ #[26, 26] ty #[.slice (some ⟨w.heap.size, i * 2, none⟩) (n + 1 - i) dc, .slice (some ⟨vb, 0, none⟩) 1 1]).run Try.prog W1 = .ok (goInt 1) (W1.setRow w.heap.size (R0.toList.take (i * 2) ++ [Value.int .i64 x0, Value.int .i64 x1] ++ R0.toList.drop (i * 2 + 2)).toArray) := fun ty dc => by
  have hsrc : ∀ j v, [Value.int .i64 x0, Value.int .i64 x1][j]? = some v → W1.cell? ((⟨vb, 0, none⟩ : Addr).add j) = some v := fun j v hj => by
   rw [Addr.add_lit, Nat.zero_add]
   refine (yC hv1 j).trans ?_
   simpa using hj
  have h := copyK W1 26 26 ty 45 2 w.heap.size (i * 2) (n + 1 - i) dc ⟨vb, 0, none⟩ 1 1 R0 45 [Value.int .i64 x0, Value.int .i64 x1] Try.underlying26 (by kernel_rfl) hb1 (by show 2 = _; simp only [Nat.min_def]; split <;> omega) hsrc (by show i * 2 + 2 ≤ _; omega) (fun v hv => by simp at hv; rcases hv with rfl | rfl <;> rfl)
  rw [h]
  have e : Nat.min 1 (n + 1 - i) = 1 := by simp only [Nat.min_def]; split <;> omega
  rw [e]
  rfl
 obtain ⟨R1, hR1⟩ : ∃ R1 : Array Value, R1 = (R0.toList.take (i * 2) ++ [Value.int .i64 x0, Value.int .i64 x1] ++ R0.toList.drop (i * 2 + 2)).toArray := ⟨_, rfl⟩
 rw [← hR1] at hcpA
 have hR1s : R1.size = G * 2 := by
  rw [hR1, List.size_toArray, List.length_append, List.length_append, List.length_take, List.length_drop, Array.length_toList, hR0s]
  show min (i * 2) (G * 2) + 2 + _ = _
  omega
 have hb2 : (W1.setRow w.heap.size R1).drew.heap[w.heap.size]? = some (.cells R1 45 (0, 0)) := setRow_heap W1 w.heap.size R0 R1 45 _ hb1
 have hg2 : (W1.setRow w.heap.size R1).drew.heap[g]? = some (.cells cur 45 (0, 0)) := by
  show (W1.heap.modify w.heap.size _)[g]? = _
  rw [Array.getElem?_modify, if_neg (by omega)]
  exact (ho1 g hgw).trans hg
 have hcpB : ∀ ty dc sc, (Builtin.copy_ #[26, 26] ty #[.slice (some ⟨w.heap.size, (i + 1) * 2, none⟩) (n - i) dc, .slice (some ⟨g, i * 2, none⟩) (n - i) sc]).run Try.prog (W1.setRow w.heap.size R1).drew = .ok (goInt ((n - i : Nat) : Int)) ((W1.setRow w.heap.size R1).drew.setRow w.heap.size (R1.toList.take ((i + 1) * 2) ++ (cur.toList.drop (i * 2)).take ((n - i) * 2) ++ R1.toList.drop ((i + 1) * 2 + (n - i) * 2)).toArray) := fun ty dc sc => by
  have hsrc : ∀ j v, ((cur.toList.drop (i * 2)).take ((n - i) * 2))[j]? = some v → (W1.setRow w.heap.size R1).drew.cell? ((⟨g, i * 2, none⟩ : Addr).add j) = some v := fun j v hj => by
   have hj2 : j < (n - i) * 2 := by
    rcases Nat.lt_or_ge j ((n - i) * 2) with h | h
    ·exact h
    ·rw [List.getElem?_eq_none (by rw [hl0]; exact h)] at hj; cases hj
   rw [List.getElem?_take, if_pos hj2, List.getElem?_drop, Array.getElem?_toList] at hj
   rw [Addr.add_lit]
   exact (yC hg2 (i * 2 + j)).trans hj
  have h := copyK (W1.setRow w.heap.size R1).drew 26 26 ty 45 2 w.heap.size ((i + 1) * 2) (n - i) dc ⟨g, i * 2, none⟩ (n - i) sc R1 45 ((cur.toList.drop (i * 2)).take ((n - i) * 2)) Try.underlying26 (by kernel_rfl) hb2 (by rw [hl0]; simp only [Nat.min_def]; split <;> omega) hsrc (by rw [hl0]; omega) h1
  rw [hl0] at h
  rw [h]
  have e : Nat.min (n - i) (n - i) = n - i := by simp only [Nat.min_def]; split <;> omega
  rw [e]
 obtain ⟨R2, hR2⟩ : ∃ R2 : Array Value, R2 = (R1.toList.take ((i + 1) * 2) ++ (cur.toList.drop (i * 2)).take ((n - i) * 2) ++ R1.toList.drop ((i + 1) * 2 + (n - i) * 2)).toArray := ⟨_, rfl⟩
 rw [← hR2] at hcpB
 have HR := aM (And.intro hR0 (And.intro hR1 hR2)); have HZ := aM hZs; have HW := aM hW1; clear hR0 hR1 hR2 hl0 hR0s hR1s hZs hb1 ho1 hv1 hb2 hg2 hold hkk hik hcap h1 hzb hzs hz0 hi0 hW1 hgw hvw hg hvb
 have hz2 : ¬ ((i : Int) = (n : Int)) := by omega
 have hz3 : (cap : Int) < (n : Int) + 1 := by omega
 have hw1 : IntKind.i64.wrap ((i : Int) + 1) = (i : Int) + 1 := by rw [IntKind.wrap_i64]; omega
 have hw2 : IntKind.i64.wrap ((n : Int) + 1) = (n : Int) + 1 := by rw [IntKind.wrap_i64]; omega
 have hw3 : IntKind.i64.wrap ((n : Int) + 1 - (i : Int)) = (n : Int) + 1 - (i : Int) := by rw [IntKind.wrap_i64]; omega
 have hb1 : (0 : Int) ≤ (i : Int) + 1 := by omega
 have hin : i ≤ n := by omega
 have hin2 : i ≤ cap := by omega
 have htn : ((i : Int) + 1).toNat = i + 1 := by omega
 have hGi : ¬ (G = i) := by omega
 have hGim : ¬ (G = i + 1) := by omega
 have hci : ¬ (cap = i) := by omega
 have hb3 : (i : Int) ≤ (n : Int) := by omega
 go_enter Try.func63, Try.ntmps63
 go_wp2_with (first
  | (at_builtin; refine Lib.wpList_append_run _ rfl _ _ _ _ rfl _ _ rfl rfl _ _ (hrz _) ?_)
  | (at_builtin; refine copy_step _ rfl _ _ 26 26 rfl _ _ rfl rfl (hcpA _ _) ?_))
 go_region_law_o (refine copy_region rfl _ _ 26 26 rfl (.slice (some ⟨w.heap.size, (i + 1) * 2, none⟩) (n - i) (G - (i + 1))) (.slice (some ⟨g, i * 2, none⟩) (n - i) (cap - i)) (by simp [Act.eval, Act.put]) (by simp [Act.eval, Act.put]) (hcpB 3 (G - (i + 1)) (cap - i)) ?_)
 go_wp2
 go_ret
 exact ⟨G, Z, R0, R1, R2, rfl, hGn, hG63, HZ.out, HR.out.1, HR.out.2.1, HR.out.2.2, by rw [HW.out]⟩
theorem flat_take (xs : List S45) (i : Nat) (hi : i ≤ xs.length) : (xs.take i).flatMap encB = (xs.flatMap encB).take (i * 2) := by
 have e : xs.flatMap encB = (xs.take i).flatMap encB ++ (xs.drop i).flatMap encB := by rw [← List.flatMap_append, List.take_append_drop]
 rw [e, List.take_left' (by rw [flat_len, List.length_take]; omega)]
theorem flat_drop (xs : List S45) (i : Nat) (hi : i ≤ xs.length) : (xs.drop i).flatMap encB = (xs.flatMap encB).drop (i * 2) := by
 have e : xs.flatMap encB = (xs.take i).flatMap encB ++ (xs.drop i).flatMap encB := by rw [← List.flatMap_append, List.take_append_drop]
 rw [e, List.drop_left' (by rw [flat_len, List.length_take]; omega)]
theorem encB_one (l : List S45) : ∀ v ∈ l.flatMap encB, v.oneCell' = true := fun v hv => by
 obtain ⟨x, _, h⟩ := List.mem_flatMap.mp hv
 simp [encB] at h
 rcases h with rfl | rfl <;> rfl
theorem one_C {w : World} {vb : Nat} {x : S45} (hvb : w.heap[vb]? = some (.cells #[.int .i64 x.f0, .int .i64 x.f1] 45 (0, 0))) : Kd.C k45 w (some ⟨vb, 0, none⟩) 1 [x] := by
 have h : Kd.R k45 45 w 0 (fun _ => True) (.slice (some ⟨vb, 0, none⟩) 1 1) [x] := flat_R (xs := [x]) ⟨rfl, .inr ⟨vb, 1, _, rfl, Nat.zero_le _, hvb, Nat.le_refl _, by decide, rfl, rfl⟩⟩ (fun _ _ => trivial)
 exact (Kd.R_reads' h).2.2
theorem grown_setRow (w : World) (g : Nat) (R : Array Value) : w.grownBy (w.setRow g R) (some g) := by
 refine ⟨rfl, rfl, rfl, ?_, fun k _ hk => ?_⟩
 ·show w.heap.size ≤ (w.heap.modify g _).size
  simp
 ·show (w.heap.modify g _)[k]? = w.heap[k]?
  rw [Array.getElem?_modify, if_neg (fun e => hk (by rw [e]))]
theorem grown_drewB (w : World) (r : Option Nat) : w.grownBy w.drew r := ⟨rfl, rfl, rfl, Nat.le_refl _, fun _ _ _ => rfl⟩
theorem grown_far {a b : World} {row : Option Nat} (h : a.grownBy b row) (g : Nat) (R : Array Value) (hg : a.heap.size ≤ g) : a.grownBy (b.setRow g R) row :=
 ⟨h.os, h.tape, h.output, Nat.le_trans h.size (grown_setRow b g R).size, fun k hk hne => ((grown_setRow b g R).block k (Nat.lt_of_lt_of_le hk h.size) (by simp; omega)).trans (h.block k hk hne)⟩
/-- cells: a part is moved up by two, and two are laid in its gap -/
theorem ins_lists (c d : List Value) (i n : Nat) (x y : Value) (hc : (n + 1) * 2 ≤ c.length) (hi : i < n) (hd : d.length = (n - i) * 2) :
  ((((c.take ((i + 1) * 2) ++ d ++ c.drop ((i + 1) * 2 + (n - i) * 2)).toArray.toList.take (i * 2) ++ [x, y] ++ (c.take ((i + 1) * 2) ++ d ++ c.drop ((i + 1) * 2 + (n - i) * 2)).toArray.toList.drop (i * 2 + 2)).toArray.toList).take ((n + 1) * 2)) = c.take (i * 2) ++ [x, y] ++ d := by
 have l1 : (c.take ((i + 1) * 2)).length = (i + 1) * 2 := by rw [List.length_take]; omega
 have e1 : (c.take ((i + 1) * 2) ++ d ++ c.drop ((i + 1) * 2 + (n - i) * 2)).take (i * 2) = c.take (i * 2) := by
  rw [List.append_assoc, List.take_append_of_le_length (by omega), List.take_take]
  congr 1; omega
 have e2 : (c.take ((i + 1) * 2) ++ d ++ c.drop ((i + 1) * 2 + (n - i) * 2)).drop (i * 2 + 2) = d ++ c.drop ((i + 1) * 2 + (n - i) * 2) := by
  rw [List.append_assoc]
  exact List.drop_left' (by omega)
 rw [e1, e2]
 show (c.take (i * 2) ++ [x, y] ++ (d ++ c.drop ((i + 1) * 2 + (n - i) * 2))).take ((n + 1) * 2) = _
 rw [← List.append_assoc]
 exact List.take_left' (by rw [List.length_append, List.length_append, List.length_take, hd]; show min (i * 2) c.length + 2 + _ = _; omega)
theorem grow_lists (a d z : List Value) (i n : Nat) (x y : Value) (ha : a.length = i * 2) (hi : i < n) (hd : d.length = (n - i) * 2) :
  ((((a ++ [x, y] ++ z).toArray.toList.take ((i + 1) * 2) ++ d ++ (a ++ [x, y] ++ z).toArray.toList.drop ((i + 1) * 2 + (n - i) * 2)).toArray.toList).take ((n + 1) * 2)) = a ++ [x, y] ++ d := by
 have l1 : (a ++ [x, y]).length = (i + 1) * 2 := by rw [List.length_append, ha]; show i * 2 + 2 = _; omega
 have e1 : (a ++ [x, y] ++ z).toArray.toList.take ((i + 1) * 2) = a ++ [x, y] := List.take_left' l1
 rw [e1]
 exact List.take_left' (by rw [List.length_append, l1, hd]; omega)
/-- the blocks with x at place i -/
def insAt (xs : List S45) (i : Nat) (x : S45) : List S45 := xs.take i ++ [x] ++ xs.drop i
theorem insAt_flat (xs : List S45) (i : Nat) (hi : i ≤ xs.length) (x : S45) : (insAt xs i x).flatMap encB = (xs.flatMap encB).take (i * 2) ++ [Value.int .i64 x.f0, Value.int .i64 x.f1] ++ (xs.flatMap encB).drop (i * 2) := by
 unfold insAt
 rw [List.flatMap_append, List.flatMap_append, flat_take xs i hi, flat_drop xs i hi]
 rfl
theorem insAt_length (xs : List S45) (i : Nat) (hi : i ≤ xs.length) (x : S45) : (insAt xs i x).length = xs.length + 1 := by
 unfold insAt
 simp
 omega
set_option maxHeartbeats 8000000 in
set_option maxRecDepth 100000 in
theorem insertB {base : Nat} {v : Value} {xs : List S45} {w : World} (HR : Kd.R k45 45 w base (fun _ => True) v xs) (hbase : base ≤ w.heap.size) (i : Nat) (hi : i ≤ xs.length) (x : S45) (vb : Nat) (hl : xs.length < 2 ^ 40)
  (hvb : w.heap[vb]? = some (.cells #[.int .i64 x.f0, .int .i64 x.f1] 45 (0, 0))) (hne : some vb ≠ v.ownBlock) :
  Calls Try.prog 63 #[v, .int .i64 (i : Int), .slice (some ⟨vb, 0, none⟩) 1 1] w fun e w' =>
   ∃ v1, e = .returned v1 ∧ Kd.R k45 45 w' base (fun _ => True) v1 (insAt xs i x) ∧ w.grownBy w' v.ownBlock := by
 by_cases hin : i < xs.length
 ·obtain ⟨g, cap, rfl, hb, hgw, _⟩ := Kd.R_form HR (by omega)
  obtain ⟨ho, hok⟩ := R_flat HR
  rcases ho.2 with ⟨e0, _⟩ | ⟨g', cap', cur, e0, hb', hg, hn, hm, hs, ht⟩
  ·cases e0
  injection e0 with e1 _ e3
  injection e1 with e1
  injection e1 with e1
  subst e1; subst e3
  have hm' : cap ≤ 9223372036854775807 := hm
  have hT : ∀ R : Array Value, R.toList.length = R.size := fun R => Array.length_toList
  have hcs : (cur.toList.drop (i * 2)).take ((xs.length - i) * 2) = (xs.flatMap encB).drop (i * 2) := by rw [← ht, List.drop_take]; congr 1; omega
  have h1 : ∀ v ∈ (cur.toList.drop (i * 2)).take ((xs.length - i) * 2), v.oneCell' = true := fun v hv => by
   rw [hcs] at hv
   exact encB_one xs v (List.mem_of_mem_drop hv)
  have hne' : vb ≠ g := fun e => hne (by rw [e]; rfl)
  have hct : cur.toList.take (i * 2) = (xs.flatMap encB).take (i * 2) := by rw [← ht, List.take_take]; congr 1; omega
  by_cases hroom : xs.length + 1 ≤ cap
  ·refine (insB_room g cap xs.length i vb cur x.f0 x.f1 w hg (by omega) hin hroom hm' hvb hne' h1).mono ?_
   rintro e w' ⟨rfl, R1, R2, e1, e2, rfl⟩
   have hl0 : ((cur.toList.drop (i * 2)).take ((xs.length - i) * 2)).length = (xs.length - i) * 2 := by rw [List.length_take, List.length_drop, hT]; omega
   have s1 : R1.size = cur.size := by rw [e1, List.size_toArray, List.length_append, List.length_append, hl0, List.length_take, List.length_drop, hT]; omega
   have s2 : R2.size = cur.size := by rw [e2, List.size_toArray, List.length_append, List.length_append, List.length_take, List.length_drop, hT, s1]; show min (i * 2) cur.size + 2 + _ = _; omega
   have hg1 : (w.drew.setRow g R1).heap[g]? = some (.cells R1 45 (0, 0)) := setRow_heap w.drew g cur R1 45 _ hg; have hg2 := setRow_heap (w.drew.setRow g R1) g R1 R2 45 _ hg1
   refine ⟨_, rfl, ?_, ?_⟩
   ·rw [← insAt_length xs i hi x]
    refine flat_R (xs := insAt xs i x) ⟨flat_len _, .inr ⟨g, cap, R2, rfl, hb', hg2, by rw [insAt_length xs i hi x]; exact hroom, hm, by rw [s2]; exact hs, ?_⟩⟩ (fun _ _ => trivial)
    rw [insAt_length xs i hi x, insAt_flat xs i hi x, e2, e1, hcs, ← hct]
    exact ins_lists cur.toList _ i xs.length _ _ (by rw [hT]; omega) hin (by rw [List.length_drop, flat_len]; omega)
   ·exact ((grown_drewB w (some g)).trans (grown_setRow w.drew g R1)).trans (grown_setRow _ g R2)
  ·refine (insB_grow g cap xs.length i vb cur x.f0 x.f1 w hg (by omega) hin hn (by omega) hl hvb h1).mono ?_
   rintro e w' ⟨G, Z, R0, R1, R2, rfl, hG, hG2, hZ, e0, e1, e2, rfl⟩
   have hl0 : ((cur.toList.drop (i * 2)).take ((xs.length - i) * 2)).length = (xs.length - i) * 2 := by rw [List.length_take, List.length_drop, hT]; omega
   have s0 : R0.size = G * 2 := by rw [e0, Array.size_append, List.size_toArray, List.length_take, hT, hZ]; omega
   have s1 : R1.size = G * 2 := by rw [e1, List.size_toArray, List.length_append, List.length_append, List.length_take, List.length_drop, hT, s0]; show min (i * 2) (G * 2) + 2 + _ = _; omega
   have s2 : R2.size = G * 2 := by rw [e2, List.size_toArray, List.length_append, List.length_append, hl0, List.length_take, List.length_drop, hT, s1]; omega
   have hg0 : (w.drew.alloc (.cells R0 45)).heap[w.heap.size]? = some (.cells R0 45 (0, 0)) := by show (w.heap.push _)[w.heap.size]? = _; simp
   have hg1 : ((w.drew.alloc (.cells R0 45)).setRow w.heap.size R1).drew.heap[w.heap.size]? = some (.cells R1 45 (0, 0)) := setRow_heap (w.drew.alloc (.cells R0 45)) w.heap.size R0 R1 45 _ hg0; have hg2 := setRow_heap ((w.drew.alloc (.cells R0 45)).setRow w.heap.size R1).drew w.heap.size R1 R2 45 _ hg1
   refine ⟨_, rfl, ?_, ?_⟩
   ·rw [← insAt_length xs i hi x]
    refine flat_R (xs := insAt xs i x) ⟨flat_len _, .inr ⟨w.heap.size, G, R2, rfl, hbase, hg2, by rw [insAt_length xs i hi x]; exact hG, hG2, s2, ?_⟩⟩ (fun _ _ => trivial)
    rw [insAt_length xs i hi x, insAt_flat xs i hi x, e2, e1, hcs, ← hct]
    have z0 : R0.toList.take (i * 2) = cur.toList.take (i * 2) := by rw [e0, Array.toList_append]; exact List.take_left' (by rw [List.length_take, hT]; omega)
    rw [z0]
    exact grow_lists (cur.toList.take (i * 2)) ((xs.flatMap encB).drop (i * 2)) (R0.toList.drop (i * 2 + 2)) i xs.length _ _ (by rw [List.length_take, hT]; omega) hin (by rw [List.length_drop, flat_len]; omega)
   ·have q1 : w.grownBy (w.drew.alloc (.cells R0 45)) (some g) := (grown_drewB w (some g)).trans (World.grownBy_alloc w.drew _ _)
    exact grown_far ((grown_far q1 w.heap.size R1 (Nat.le_refl _)).trans (grown_drewB _ (some g))) w.heap.size R2 (Nat.le_refl _)
 ·obtain rfl : i = xs.length := by omega
  have hfin : insAt xs xs.length x = xs ++ [x] := by unfold insAt; rw [List.take_length, List.drop_length, List.append_nil]
  rw [hfin]
  have hu45 := Try.underlying45; have HR0 := aM HR; have HC0 := aM (one_C hvb); have HBS := aM hbase; have HLL := aM hl; have HNE := aM hne; obtain ⟨A, c, rfl⟩ := Kd.R_slice HR; have hcc := (Kd.R_reads' HR).2.1
  have hz2 : ((xs.length : Int) == (xs.length : Int)) = true := by simp
  clear HR hvb hbase hl hne hi hin hfin
  by_cases hcn : c = xs.length
  ·subst hcn
   cases A with
   | none =>
    go_enter Try.func63, Try.ntmps63
    go_wp2_with (first | ((with_reducible refine gate_builtin (b := .append) (xs := #[.tmp 23, .tmp 24]) rfl ?_); at_builtin; refine Kd.R_append_rows k45 (w0 := w) base rfl (.tmp 23) (.tmp 24) 26 45 (.agg #[.int .i64 0, .int .i64 0]) 16 rfl Try.underlying26 (by kernel_rfl) rfl (by decide) (by omega) _ xs [x] _ _ _ (fun _ => True) (fun _ => False) rfl rfl HR0.out HC0.out (fun _ _ h => h) (fun _ h => h.elim) (fun _ _ => trivial) (Below.refl _ _) HBS.out (by have := HLL.out; omega) ?_; intro v161 w9 ho hb hg hat))
    go_ret
    exact ⟨v161, rfl, ho, hg⟩
   | some a_ =>
    go_enter Try.func63, Try.ntmps63
    go_wp2_with (first | ((with_reducible refine gate_builtin (b := .append) (xs := #[.tmp 23, .tmp 24]) rfl ?_); at_builtin; refine Kd.R_append_rows k45 (w0 := w) base rfl (.tmp 23) (.tmp 24) 26 45 (.agg #[.int .i64 0, .int .i64 0]) 16 rfl Try.underlying26 (by kernel_rfl) rfl (by decide) (by omega) _ xs [x] _ _ _ (fun _ => True) (fun _ => False) rfl rfl HR0.out HC0.out (fun _ _ h => h) (fun _ h => h.elim) (fun _ _ => trivial) (Below.refl _ _) HBS.out (by have := HLL.out; omega) ?_; intro v161 w9 ho hb hg hat))
    go_ret
    exact ⟨v161, rfl, ho, hg⟩
  ·cases A with
   | none =>
    go_enter Try.func63, Try.ntmps63
    go_wp2_with (first | ((with_reducible refine gate_builtin (b := .append) (xs := #[.tmp 23, .tmp 24]) rfl ?_); at_builtin; refine Kd.R_append_rows k45 (w0 := w) base rfl (.tmp 23) (.tmp 24) 26 45 (.agg #[.int .i64 0, .int .i64 0]) 16 rfl Try.underlying26 (by kernel_rfl) rfl (by decide) (by omega) _ xs [x] _ _ _ (fun _ => True) (fun _ => False) rfl rfl HR0.out HC0.out (fun _ _ h => h) (fun _ h => h.elim) (fun _ _ => trivial) (Below.refl _ _) HBS.out (by have := HLL.out; omega) ?_; intro v161 w9 ho hb hg hat))
    go_ret
    exact ⟨v161, rfl, ho, hg⟩
   | some a_ =>
    go_enter Try.func63, Try.ntmps63
    go_wp2_with (first | ((with_reducible refine gate_builtin (b := .append) (xs := #[.tmp 23, .tmp 24]) rfl ?_); at_builtin; refine Kd.R_append_rows k45 (w0 := w) base rfl (.tmp 23) (.tmp 24) 26 45 (.agg #[.int .i64 0, .int .i64 0]) 16 rfl Try.underlying26 (by kernel_rfl) rfl (by decide) (by omega) _ xs [x] _ _ _ (fun _ => True) (fun _ => False) rfl rfl HR0.out HC0.out (fun _ _ h => h) (fun _ h => h.elim) (fun _ _ => trivial) (Below.refl _ _) HBS.out (by have := HLL.out; omega) ?_; intro v161 w9 ho hb hg hat))
    go_ret
    exact ⟨v161, rfl, ho, hg⟩
theorem cell_ins {w5 w6 : World} {r : Option Nat} {gb j : Nat} {u : Value} {o : Obj} (hg6 : (w5.alloc o).grownBy w6 r) (h : w5.cell? ⟨gb, j, none⟩ = some u) (hn : some gb ≠ r) : w6.cell? ⟨gb, j, none⟩ = some u := by
 have hlt : gb < w5.heap.size := World.block_lt_of_cell? _ _ h
 have h1 : (w5.alloc o).cell? ⟨gb, j, none⟩ = some u := by simp [h, World.cell?_alloc_some]
 have e : w6.heap[gb]? = (w5.alloc o).heap[gb]? := hg6.block gb (by show gb < (w5.heap.push o).size; simp; omega) hn
 unfold World.cell? at h1 ⊢
 simp only [e] at h1 ⊢
 exact h1
theorem cell_grown {w5 w6 : World} {r : Option Nat} {gb j : Nat} {u : Value} (hg6 : w5.grownBy w6 r) (h : w5.cell? ⟨gb, j, none⟩ = some u) (hn : some gb ≠ r) : w6.cell? ⟨gb, j, none⟩ = some u := by
 have e : w6.heap[gb]? = w5.heap[gb]? := hg6.block gb (World.block_lt_of_cell? _ _ h) hn
 unfold World.cell? at h ⊢
 simp only [e] at h ⊢
 exact h
def impl_with.f (l0 : List (S45)) (a1_0 : Int) (a1_1 : Int) : Option ((List (S45))) :=
 if l0.length < 1099511627776 then some (insAt l0 (bsB l0 a1_0 l0.length 0 l0.length) ⟨a1_0, a1_1⟩) else none
set_option maxHeartbeats 8000000 in
set_option maxRecDepth 100000 in
theorem impl_with.calls (A0 : Option Addr) (c0 : Nat) (l0 : List (S45)) (a1_0 : Int) (a1_1 : Int) (r : List (S45)) (w : World) (hr0 : Kd.C k45 w A0 l0.length l0) (hc0 : l0.length ≤ c0) (h : impl_with.f l0 a1_0 a1_1 = some r) :
  Calls Try.prog 39 #[.slice A0 l0.length c0, .agg #[.int .i64 a1_0, .int .i64 a1_1]] w fun e w' => ∃ v0_ : Value, e = .returned (v0_) ∧ Kd.R k45 45 w' w.heap.size (fun _ => True) v0_ r ∧ Below w.heap.size w w' := by
 unfold impl_with.f at h
 by_cases hl : l0.length < 1099511627776
 case neg => rw [if_neg hl] at h; cases h
 rw [if_pos hl] at h
 obtain rfl := Option.some.inj h; clear h; have hu45 := Try.underlying45; have LM := aM hl; have HR0 := aM hr0; have HC0 := aM hc0; have HI := aM (bsB_le l0 a1_0 l0.length 0 l0.length (Nat.zero_le _)); clear hl hr0 hc0; have HB := aM (Below.refl w.heap.size w)
 generalize hbs : bsB l0 a1_0 l0.length 0 l0.length = bs at HI
 have HBS := aM hbs; clear hbs
 go_enter Try.func39, Try.ntmps39
 go_wp2_with (first | ((with_reducible refine gate_dst (N := 3) rfl ?_); refine bE 3 #[.int .i64 a1_0, .int .i64 a1_1] 45 ?_; intro gb1 hg w3 hbox hb; have n0_ := aM (zT (zH HB.out) hb); have n1_ := aM (hbox); have n2_ : w3.cell? ⟨gb1, 0, none⟩ = some (.int .i64 a1_0) := (yC n1_.out 0).trans rfl; have n3_ : w3.cell? ⟨gb1, 1, none⟩ = some (.int .i64 a1_1) := (yC n1_.out 1).trans rfl; have n4_ := yZ n1_.out 0; have n5_ := yZ n1_.out 1; clear HB; have HB := n0_; have BK1 := n1_; clear n0_ n1_; clear hb hbox hg) | (go_at_call 62; refine (searchB A0 c0 l0 a1_0 a1_1 _ (cB HR0.out HB.out) (by have := LM.out; omega)).mono ?_; rintro e w4 ⟨bb, rfl, hb⟩; rw [HBS.out]; have n0_ := aM (zT HB.out hb); have n1_ := aM (yB BK1.out hb); have m2_ : w4.cell? ⟨gb1, 0, none⟩ = some (.int .i64 a1_0) := (yC n1_.out 0).trans rfl; have m3_ : w4.cell? ⟨gb1, 1, none⟩ = some (.int .i64 a1_1) := (yC n1_.out 1).trans rfl; have m4_ := yZ n1_.out 0; have m5_ := yZ n1_.out 1; clear HB BK1; have HB := n0_; have BK1 := n1_; clear n0_ n1_ hb))
 have HCL : Aside0 (∀ W : World, (W.cell? ⟨gb1, 0, none⟩ = some (.int .i64 a1_0) ∧ W.cell? ⟨gb1, 1, none⟩ = some (.int .i64 a1_1) ∧ Below w.heap.size w W) → Calls Try.prog 35 #[.slice A0 l0.length c0] W fun e w' => ∃ v5, e = .returned v5 ∧ Kd.R k45 45 w' w.heap.size (fun _ => True) v5 l0 ∧ (∀ k, v5.ownBlock = some k → W.heap.size ≤ k) ∧ Below W.heap.size W w' ∧ w'.cell? ⟨gb1, 0, none⟩ = some (.int .i64 a1_0) ∧ w'.cell? ⟨gb1, 1, none⟩ = some (.int .i64 a1_1) ∧ Below w.heap.size w w') := ⟨fun W hS => (impl_Block_35.calls A0 c0 l0 l0 W (cB HR0.out hS.2.2) HC0.out (by unfold impl_Block_35.f; rw [if_pos (by have := LM.out; omega)])).mono fun e w' h => by
  obtain ⟨v5, he, ho, hb⟩ := h
  exact ⟨v5, he, xL ho (zZ hS.2.2), fun k hk => Kd.R_base ho k hk, hb, (hb.cell (World.block_lt_of_cell? _ _ hS.1)).trans hS.1, (hb.cell (World.block_lt_of_cell? _ _ hS.2.1)).trans hS.2.1, zT hS.2.2 hb⟩⟩
 have hd5 : Below w.heap.size w w4.drew := zD HB.out
 have HIN : Aside0 (∀ (W : World) (v5 : Value) (vb : Nat), Kd.R k45 45 W w.heap.size (fun _ => True) v5 l0 → W.heap[vb]? = some (.cells #[.int .i64 a1_0, .int .i64 a1_1] 45 (0, 0)) → some vb ≠ v5.ownBlock → some gb1 ≠ v5.ownBlock → (W.cell? ⟨gb1, 0, none⟩ = some (.int .i64 a1_0) ∧ W.cell? ⟨gb1, 1, none⟩ = some (.int .i64 a1_1) ∧ Below w.heap.size w W) → Calls Try.prog 63 #[v5, .int .i64 (bs : Int), .slice (some ⟨vb, 0, none⟩) 1 1] W fun e w' => ∃ v6, e = .returned v6 ∧ Kd.R k45 45 w' w.heap.size (fun _ => True) v6 (insAt l0 bs ⟨a1_0, a1_1⟩) ∧ w'.cell? ⟨gb1, 0, none⟩ = some (.int .i64 a1_0) ∧ w'.cell? ⟨gb1, 1, none⟩ = some (.int .i64 a1_1) ∧ Below w.heap.size w w') := ⟨fun W v5 vb ho hvb hn1 hn2 hS => (insertB (base := w.heap.size) ho (zZ hS.2.2) bs HI.out ⟨a1_0, a1_1⟩ vb (by have := LM.out; omega) hvb hn1).mono fun e w' h => by
  obtain ⟨v6, he, ho6, hg⟩ := h
  exact ⟨v6, he, ho6, cell_grown hg hS.1 hn2, cell_grown hg hS.2.1 hn2, Below.grown hS.2.2 hg (zZ hS.2.2) (fun k hk => Kd.R_base ho k hk)⟩⟩
 go_region_held3 (fun w' => w'.cell? ⟨gb1, 0, none⟩ = some (.int .i64 a1_0) ∧ w'.cell? ⟨gb1, 1, none⟩ = some (.int .i64 a1_1) ∧ Below w.heap.size w w') (first | (go_keep; done) | (refine ⟨by simp [*, World.cell?_alloc_some], by simp [*, World.cell?_alloc_some], ?_⟩; exact zA (by assumption) _))
  (first | (go_at_call 35; refine (HCL.out _ (by (first | (simp [*]; done) | (refine ⟨by simp [*, World.cell?_alloc_some], by simp [*, World.cell?_alloc_some], ?_⟩; exact zA (by assumption) _)))).mono ?_; rintro e w5 ⟨v5, rfl, ho5, hk5, hb5, s1, s2, s3⟩) | (go_at_call 63; refine (HIN.out _ _ _ (xA ho5 _) (blk_new _ _) (fun e => Nat.lt_irrefl _ (Kd.R_lt ho5 _ e.symm)) (fun e => absurd (hk5 gb1 e.symm) (Nat.not_le_of_lt (blk_lt BK1.out))) (by assumption)).mono ?_; rintro e w6 ⟨v6, rfl, ho6, s4, s5, s6⟩) | (go_at_call 63; refine (HIN.out _ _ _ ho5 (yB (yD (blk_new w4 _)) hb5) (fun e => absurd (hk5 _ e.symm) (Nat.not_le_of_lt (blk_lt (yD (blk_new w4 _))))) (fun e => absurd (hk5 gb1 e.symm) (Nat.not_le_of_lt (blk_lt (yD (yA BK1.out _))))) (by assumption)).mono ?_; rintro e w6 ⟨v6, rfl, ho6, s4, s5, s6⟩))
 all_goals go_wp2
 all_goals go_ret
 all_goals exact ⟨v6, rfl, ho6, s6⟩


end Go.Proofs.Ytbjcioihomeikaa.PFnBuddies
