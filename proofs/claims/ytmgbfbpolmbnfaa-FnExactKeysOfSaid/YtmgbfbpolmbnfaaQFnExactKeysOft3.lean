/- Clone of a row of ints; branchOf; no condition. -/
import Derived.Test.YtmgbfbpolmbnfaaQFnExactKeysOft2
namespace Go.Proofs.Ytmgbfbpolmbnfaa.PFnExactKeysOf
open Go.RowKit Go.Proofs.YtmgbfbpolmbnfaaW.PrintWords Go.Proofs.YtmgbfbpolmbnfaaW.PrintLast Go.Proofs.YtmgbfbpolmbnfaaW.PrintMore
set_option linter.unusedVariables false
set_option linter.unusedSimpArgs false
set_option maxRecDepth 100000

/-! #### slices.Clone at whole numbers -/
set_option maxHeartbeats 8000000 in
set_option maxRecDepth 100000 in
theorem cloneI (A0 : Option Addr) (c0 : Nat) (l0 : List Int) (w : World) (hl : l0.length < 1099511627776) (hr0 : Kd.C (Kd.int .i64) w A0 l0.length l0) (hc0 : l0.length ≤ c0) :
    Calls Try.prog 49 #[.slice A0 l0.length c0] w fun e w' => ∃ v0_, e = .returned v0_ ∧ Kd.R (Kd.int .i64) 3 w' w.heap.size (fun _ => True) v0_ l0 ∧ Below w.heap.size w w' := by
  have LM := Aside0.mk hl
  clear hl
  have HR0 := Aside0.mk hr0
  have HC0 := Aside0.mk hc0
  clear hr0 hc0
  have HB := Aside0.mk (Below.refl w.heap.size w)
  cases A0 with
  | none =>
    obtain rfl : l0 = [] := by
      rcases Nat.eq_zero_or_pos l0.length with h0 | h0
      · exact List.eq_nil_of_length_eq_zero h0
      · obtain ⟨a, ha, _⟩ := HR0.out.2.2 h0; cases ha
    have he : ∀ w : World, (binOp .eql 35 (.slice none 0 c0) (.slice none 0 0)).run Try.prog w = .ok (.bool true) w := fun _ => rfl
    go_enter Try.func49, Try.ntmps49
    go_wp2
    go_ret
    exact ⟨_, rfl, Kd.R_nil _ _ _ _ _, by repeat (first | exact HB.out | apply below_alloc | apply pw_below_drewN | apply below_drew1)⟩
  | some a_ =>
    have he : ∀ w : World, (binOp .eql 35 (.slice (some a_) l0.length c0) (.slice none 0 0)).run Try.prog w = .ok (.bool false) w := fun _ => rfl
    go_enter Try.func49, Try.ntmps49
    go_wp2_with (first | ((with_reducible refine gate_dst (N := 5) rfl ?_); refine Kd.R_lit (Kd.int .i64) _ 3 ?hg (N := 5) ?hd (xs := ([] : List Int)) (inner := []) (ok := fun _ => True) (okp := fun _ => True) ?hr ?hp (fun _ hk => hk) trivial (Below.refl _ _) (Nat.le_refl _) (by simp) ?_; (case hd => rfl); (case hg => rfl); (case hr => first | (go_simp; done) | (go_simp; rfl)); (case hp => exact (Reps.none _ _)); intro v158 w5 ho6 hb hg_ hnew_; clear hg_ hnew_; have n0_ := Aside0.mk (Kd.R_lower ho6 (below_size (by repeat (first | exact HB.out | apply below_alloc | apply pw_below_drewN | apply below_drew1)))); have n3_ := Aside0.mk (below_step (by repeat (first | exact HB.out | apply below_alloc | apply pw_below_drewN | apply below_drew1)) hb); clear HB; have HO159 := n0_; have HB := n3_; clear n0_ n3_; clear hb ho6) | ((with_reducible refine gate_builtin (b := .append) (xs := #[.tmp 5, .tmp 6]) rfl ?_); at_builtin; refine Kd.R_append_rows (Kd.int .i64) (w0 := w) w.heap.size rfl (.tmp 5) (.tmp 6) 35 3 (.int .i64 0) 8 rfl Try.underlying35 (by kernel_rfl) rfl (by decide) (by omega) v158 [] l0 _ _ _ (fun _ => True) (fun _ => False) rfl rfl ?aO ?aR (fun _ _ h => h) (fun _ h => h.elim) ?aF ?aB ?aS ?aL ?_; (case aR => repeat (first | exact (Kd.C_below HR0.out HB.out) | (with_reducible refine Kd.C_alloc ?_ _) | (with_reducible refine Kd.C_drewN ?_ _) | (with_reducible refine Kd.C_drew ?_))); (case aB => exact (by repeat (first | exact HB.out | apply below_alloc | apply pw_below_drewN | apply below_drew1))); (case aF => exact (fun _ _ => trivial)); (case aO => exact (by (with_reducible repeat (first | apply Kd.R_alloc | apply Kd.R_drewN | apply Kd.R_drew)); exact HO159.out)); (case aS => exact (below_size (by repeat (first | exact HB.out | apply below_alloc | apply pw_below_drewN | apply below_drew1)))); (case aL => have := LM.out; simp only [List.length_nil]; omega); intro v161 w9 ho hb hg hat; have n2_ := Aside0.mk (hb); have n3_ := Aside0.mk (ho); clear HB; clear HO159; have HB := n2_; have HO162 := n3_; clear n2_ n3_; clear ho hb hg hat; obtain ⟨Ao10, co10, eo10⟩ := Kd.R_slice HO162.out; subst eo10))
    go_ret
    exact ⟨_, rfl, by (with_reducible repeat (first | apply Kd.R_alloc | apply Kd.R_drewN | apply Kd.R_drew)); exact HO162.out, by repeat (first | exact HB.out | apply below_alloc | apply pw_below_drewN | apply below_drew1)⟩
/-! #### branchOf: the trees while they are built; ok: the blocks that a tree may use -/
def ptrV (b : Nat) : Value := .pointer (some ⟨b, 0, none⟩)
def kP : Kd Nat := Kd.scalar ptrV (fun _ => rfl)
def RepO : Nat → World → Nat → (Nat → Prop) → S47 → Nat → Prop
  | 0, _, _, _, _, _ => False
  | n + 1, w, base, ok, x, g => ok g ∧ base ≤ g ∧ ∃ vk vq gs, w.heap[g]? = some (.cells #[vk, vq] 65 (0, 0)) ∧ (Kd.int .i64).R 3 w base ok vk x.f0 ∧ kP.R 51 w base ok vq gs ∧ gs.length = x.f1.length ∧ x.f1.length ≤ 9223372036854775807 ∧ ∀ i, i < x.f1.length → RepO n w base ok (kidF x i) (gs.getD i 0)
theorem RepO_move {n : Nat} {w w1 : World} {base : Nat} {ok ok' : Nat → Prop} {x : S47} {g : Nat} (h : RepO n w base ok x g) (hm : ∀ k, ok k → k < w.heap.size → w1.heap[k]? = w.heap[k]?) (hok : ∀ k, ok k → k < w.heap.size → ok' k) : RepO n w1 base ok' x g := by
  induction n generalizing x g with
  | zero => exact h.elim
  | succ n ih =>
    obtain ⟨h1, h2, vk, vq, gs, hg, hk, hq, hl, hm2, hkid⟩ := h
    refine ⟨hok g h1 (blk_lt hg), h2, vk, vq, gs, (hm g h1 (blk_lt hg)).trans hg, ?_, ?_, hl, hm2, fun i hi => ih (hkid i hi)⟩
    · exact Kd.R_mono (Kd.R_move (Kd.R_bound hk) (fun k q => hm k q.1 q.2.2.1)) (fun k q => hok k q.1 q.2.2.1)
    · exact Kd.R_mono (Kd.R_move (Kd.R_bound hq) (fun k q => hm k q.1 q.2.2.1)) (fun k q => hok k q.1 q.2.2.1)
theorem RepO_below {n : Nat} {w w1 : World} {base : Nat} {ok : Nat → Prop} {x : S47} {g : Nat} (h : RepO n w base ok x g) (hb : Below w.heap.size w w1) : RepO n w1 base ok x g := RepO_move h (fun k _ hk => hb.block k hk) (fun _ h _ => h)
theorem RepO_lower {n : Nat} {w : World} {base base' : Nat} {ok : Nat → Prop} {x : S47} {g : Nat} (h : RepO n w base ok x g) (hb : base' ≤ base) : RepO n w base' ok x g := by
  induction n generalizing x g with
  | zero => exact h.elim
  | succ n ih =>
    obtain ⟨h1, h2, vk, vq, gs, hg, hk, hq, hl, hm2, hkid⟩ := h
    exact ⟨h1, Nat.le_trans hb h2, vk, vq, gs, hg, Kd.R_lower hk hb, Kd.R_lower hq hb, hl, hm2, fun i hi => ih (hkid i hi)⟩
theorem RepO_succ {n : Nat} {w : World} {base : Nat} {ok : Nat → Prop} {x : S47} {g : Nat} (h : RepO n w base ok x g) : RepO (n + 1) w base ok x g := by
  induction n generalizing x g with
  | zero => exact h.elim
  | succ n ih =>
    obtain ⟨h1, h2, vk, vq, gs, hg, hk, hq, hl, hm2, hkid⟩ := h
    exact ⟨h1, h2, vk, vq, gs, hg, hk, hq, hl, hm2, fun i hi => ih (hkid i hi)⟩
theorem RepO_size {n : Nat} {w : World} {base : Nat} {ok : Nat → Prop} {x : S47} {g : Nat} (h : RepO n w base ok x g) : ok g ∧ base ≤ g ∧ g < w.heap.size := by
  cases n with
  | zero => exact h.elim
  | succ n =>
    obtain ⟨h1, h2, vk, vq, gs, hg, _⟩ := h
    exact ⟨h1, h2, blk_lt hg⟩
theorem at_P {w : World} {A : Option Addr} {n : Nat} {xs : List Nat} (h : kP.C w A n xs) (i : Nat) (hi : i < n) : ∃ ad, A = some ad ∧ w.cell? (ad.add i) = some (ptrV (xs.getD i 0)) := by
  obtain ⟨ad, e, hc⟩ := ReadsOf.at_ (Kd.reads_of_C (enc := ptrV) (d := (0 : Nat)) (h1 := fun _ => rfl) h) (i : Int) (by omega) (by omega)
  exact ⟨ad, e, hc⟩
/-- what has been built is what the walks above read -/
theorem RepO_rep {n : Nat} {w : World} {base : Nat} {ok : Nat → Prop} {x : S47} {g : Nat} (h : RepO n w base ok x g) : RepB n w x (ptrV g) := by
  induction n generalizing x g with
  | zero => exact h.elim
  | succ n ih =>
    obtain ⟨h1, h2, vk, vq, gs, hg, hk, hq, hl, hm2, hkid⟩ := h
    obtain ⟨A0, c0, e0, l0, r0⟩ := Kd.R_reads hk
    obtain ⟨A1, c1, e1, l1, r1⟩ := Kd.R_reads hq
    subst e0
    subst e1
    refine ⟨g, A0, c0, A1, c1, rfl, by rw [← hl]; exact hg, l0, r0, by rw [← hl]; exact l1, hm2, fun h0 => ?_⟩
    obtain ⟨ad, ea, hcell⟩ := r1.2.2 (by rw [hl]; exact h0)
    refine ⟨ad, ea, fun i hi => ⟨ptrV (gs.getD i 0), ?_, ?_⟩⟩
    · have hig : i < gs.length := by rw [hl]; exact hi
      have := at_P r1 i hig
      obtain ⟨ad', ea', hc⟩ := this
      rw [ea] at ea'
      cases ea'
      exact hc
    · have := ih (hkid i hi)
      rw [kidF_at hi] at this
      exact this
theorem info51 : (Try.prog.info? 51).map (fun i => (i.zero, i.size, i.bytes)) = some (some (.pointer none), 1, 8) := by kernel_rfl
/-! #### branchOf: the model -/
def nodeAt (ns : List S73) (i : Nat) : S73 := ns.getD i z73
def stepOk (op : List Int) (x : S73) : Bool := (x.f0 == decide (x.f2.length = 0)) && decide (x.f2.length ≤ op.length) && decide (op.drop (op.length - x.f2.length) = x.f2)
def mkB (ts : List S47) (x : S73) : S47 := ⟨x.f1, x.f2.map (fun k => ts.getD k.toNat z47)⟩
def loadF (ns : List S73) : Nat → Option (List S47 × List Int)
  | 0 => some ([], [])
  | i + 1 => (loadF ns i).bind fun p => if stepOk p.2 (nodeAt ns i) = true then some (p.1 ++ [mkB p.1 (nodeAt ns i)], p.2.take (p.2.length - (nodeAt ns i).f2.length) ++ [(i : Int)]) else none
def branchF (ns : List S73) (root : Int) : Option S47 :=
  if 200 < ns.length then none else (loadF ns ns.length).bind fun p => if p.2 = [root] then some (p.1.getD root.toNat z47) else none
theorem loadF_inv (ns : List S73) : ∀ (i : Nat) (ts : List S47) (op : List Int), loadF ns i = some (ts, op) → ts.length = i ∧ op.length ≤ i ∧ ∀ k, k ∈ op → 0 ≤ k ∧ k < (i : Int)
  | 0, ts, op, h => by
    cases h
    exact ⟨rfl, Nat.le_refl _, fun k hk => by cases hk⟩
  | i + 1, ts, op, h => by
    obtain ⟨⟨ts0, op0⟩, h0, h1⟩ := Option.bind_eq_some_iff.mp h
    obtain ⟨q1, q2, q3⟩ := loadF_inv ns i ts0 op0 h0
    by_cases hc : stepOk op0 (nodeAt ns i) = true
    · replace h1 : (if stepOk op0 (nodeAt ns i) = true then some (ts0 ++ [mkB ts0 (nodeAt ns i)], op0.take (op0.length - (nodeAt ns i).f2.length) ++ [(i : Int)]) else none) = some (ts, op) := h1
      rw [if_pos hc] at h1
      cases h1
      refine ⟨by rw [List.length_append, q1]; rfl, by rw [List.length_append, List.length_take]; simp only [List.length_cons, List.length_nil]; omega, fun k hk => ?_⟩
      rcases List.mem_append.mp hk with hk | hk
      · have := q3 k (List.mem_of_mem_take hk)
        omega
      · have := List.mem_singleton.mp hk
        omega
    · replace h1 : (if stepOk op0 (nodeAt ns i) = true then some (ts0 ++ [mkB ts0 (nodeAt ns i)], op0.take (op0.length - (nodeAt ns i).f2.length) ++ [(i : Int)]) else none) = some (ts, op) := h1
      rw [if_neg hc] at h1
      cases h1
theorem loadF_none (ns : List S73) (i : Nat) (h : loadF ns i = none) : ∀ j, loadF ns (i + j) = none
  | 0 => h
  | j + 1 => by
    show (loadF ns (i + j)).bind _ = none
    rw [loadF_none ns i h j]
    rfl
theorem loadF_stop (ns : List S73) {i n : Nat} {ts : List S47} {op : List Int} (h : loadF ns i = some (ts, op)) (hi : i < n) (hs : stepOk op (nodeAt ns i) = false) : loadF ns n = none := by
  have h1 : loadF ns (i + 1) = none := by
    show (loadF ns i).bind _ = none
    rw [h]
    show (if stepOk op (nodeAt ns i) = true then _ else none) = none
    rw [hs, if_neg (by decide)]
  have := loadF_none ns (i + 1) h1 (n - (i + 1))
  rwa [show i + 1 + (n - (i + 1)) = n by omega] at this
theorem loadF_go (ns : List S73) {i : Nat} {ts : List S47} {op : List Int} (h : loadF ns i = some (ts, op)) (hs : stepOk op (nodeAt ns i) = true) : loadF ns (i + 1) = some (ts ++ [mkB ts (nodeAt ns i)], op.take (op.length - (nodeAt ns i).f2.length) ++ [(i : Int)]) := by
  show (loadF ns i).bind _ = _
  rw [h]
  show (if stepOk op (nodeAt ns i) = true then _ else none) = _
  rw [hs, if_pos rfl]
theorem equal_l0 : ∀ (k : Nat) (l0 l1 : List Int) (i : Nat), l0.length = l1.length → l0.length < 1099511627776 → i ≤ l0.length → l0.length - i < k → slices_Equal_int_int.l0 k l0 l1 (l0.length : Int) (i : Int) = some (decide (l0.drop i = l1.drop i))
  | 0, _, _, _, _, _, _, h => absurd h (Nat.not_lt_zero _)
  | k + 1, l0, l1, i, hl, hb, hi, hk => by
    rw [slices_Equal_int_int.l0]
    by_cases hlt : i < l0.length
    · rw [if_pos (by omega), if_pos (by omega), if_pos (by omega), if_pos (by omega), rd_get, rd_get, wrap_inc i (by omega)]
      have e0 : l0.drop i = l0.getD i 0 :: l0.drop (i + 1) := by rw [List.drop_eq_getElem_cons hlt, List.getD_eq_getElem?_getD, List.getElem?_eq_getElem hlt]; rfl
      have hlt1 : i < l1.length := by omega
      have e1 : l1.drop i = l1.getD i 0 :: l1.drop (i + 1) := by rw [List.drop_eq_getElem_cons hlt1, List.getD_eq_getElem?_getD, List.getElem?_eq_getElem hlt1]; rfl
      by_cases he : l0.getD i 0 = l1.getD i 0
      · rw [if_pos he, equal_l0 k l0 l1 (i + 1) hl hb (by omega) (by omega), e0, e1, he]
        congr 1
        exact decide_eq_decide.mpr ⟨fun h => by rw [h], fun h => (List.cons.inj h).2⟩
      · rw [if_neg he, e0, e1, decide_eq_false (fun h => he (List.cons.inj h).1)]
    · rw [if_neg (by omega), List.drop_eq_nil_of_le (by omega), List.drop_eq_nil_of_le (by omega)]
      rfl
theorem equal_val (l0 l1 : List Int) (hb : l0.length < 1099511627776) : slices_Equal_int_int.f (l0.length + 1) l0 l1 = some (decide (l0 = l1)) := by
  unfold slices_Equal_int_int.f
  by_cases hl : l0.length = l1.length
  · rw [if_pos (by omega)]
    have := equal_l0 (l0.length + 1) l0 l1 0 hl hb (Nat.zero_le _) (by omega)
    simpa using this
  · rw [if_neg (by omega), decide_eq_false (fun h => hl (by rw [h]))]
theorem getD_left {α : Type} (l r : List α) (j : Nat) (z : α) (h : j < l.length) : (l ++ r).getD j z = l.getD j z := by
  rw [List.getD_eq_getElem?_getD, List.getD_eq_getElem?_getD, List.getElem?_append_left h]
theorem getD_last {α : Type} (l : List α) (x z : α) (j : Nat) (h : j = l.length) : (l ++ [x]).getD j z = x := by
  subst h
  rw [List.getD_eq_getElem?_getD, List.getElem?_append_right (Nat.le_refl _), Nat.sub_self]
  rfl
theorem getD_map {α β : Type} (l : List α) (f : α → β) (j : Nat) (z : β) (y : α) (h : j < l.length) : (l.map f).getD j z = f (l.getD j y) := by
  rw [List.getD_eq_getElem?_getD, List.getD_eq_getElem?_getD, List.getElem?_map, List.getElem?_eq_getElem h]
  rfl
theorem getD_mem {α : Type} (l : List α) (j : Nat) (z : α) (h : j < l.length) : l.getD j z ∈ l := by
  rw [List.getD_eq_getElem?_getD, List.getElem?_eq_getElem h]
  exact List.getElem_mem h
theorem take_next (qs : List Int) (f : Int → Nat) (j : Nat) (h : j < qs.length) : (qs.take (j + 1)).map f = (qs.take j).map f ++ [f (qs.getD j 0)] := by
  rw [List.take_add_one, List.map_append, List.getElem?_eq_getElem h, List.getD_eq_getElem?_getD, List.getElem?_eq_getElem h]
  rfl
theorem trees_step {i : Nat} {W w1' : World} {base cb : Nat} {va va' vk vq : Value} {ts : List S47} {gs : List Nat} {lf : Bool} {ks qs : List Int} {g9 : Nat}
    (HT : ∀ j, j < i → RepO i W base (fun k => some k ≠ va.ownBlock) (ts.getD j z47) (gs.getD j 0)) (hgl : gs.length = i) (htl : ts.length = i)
    (hva : ∀ k, va.ownBlock = some k → k < cb) (hcb : base ≤ cb) (hg9 : cb ≤ g9) (HG : W.heap[g9]? = some (.cells #[vk, vq] 65 (0, 0)))
    (HV : (Kd.int .i64).R 3 W cb (fun _ => True) vk ks) (HQ : kP.R 51 W cb (fun _ => True) vq (qs.map (fun k => gs.getD k.toNat 0)))
    (hq : ∀ k, k ∈ qs → 0 ≤ k ∧ k < (i : Int)) (hql : qs.length ≤ 9223372036854775807)
    (hg : W.grownBy w1' va.ownBlock) (hat : va'.ownBlock = va.ownBlock ∨ ∃ b, va'.ownBlock = some b ∧ W.heap.size ≤ b) :
    ∀ j, j < i + 1 → RepO (i + 1) w1' base (fun k => some k ≠ va'.ownBlock) ((ts ++ [mkB ts ⟨lf, ks, qs⟩]).getD j z47) ((gs ++ [g9]).getD j 0) := by
  have hmv : ∀ {n : Nat} {x : S47} {g : Nat}, RepO n W base (fun k => some k ≠ va.ownBlock) x g → RepO n w1' base (fun k => some k ≠ va'.ownBlock) x g := fun h =>
    RepO_move h (fun k hk hlt => hg.block k hlt hk) (fun k hk hlt he => by
      rcases hat with h | ⟨b, h, hb⟩
      · exact hk (he.trans h)
      · rw [h] at he
        cases he
        omega)
  have hok : ∀ k, cb ≤ k → some k ≠ va.ownBlock := fun k hk he => by have := hva k he.symm; omega
  intro j hj
  by_cases hlt : j < i
  · rw [getD_left _ _ _ _ (by omega), getD_left _ _ _ _ (by omega)]
    exact hmv (RepO_succ (HT j hlt))
  · rw [getD_last _ _ _ _ (by omega), getD_last _ _ _ _ (by omega)]
    refine hmv ⟨hok g9 hg9, Nat.le_trans hcb hg9, vk, vq, qs.map (fun k => gs.getD k.toNat 0), HG, ?_, ?_, ?_, ?_, ?_⟩
    · exact Kd.R_lower (Kd.R_mono (Kd.R_bound HV) (fun k q => hok k q.2.1)) hcb
    · exact Kd.R_lower (Kd.R_mono (Kd.R_bound HQ) (fun k q => hok k q.2.1)) hcb
    · simp [mkB]
    · simpa [mkB] using hql
    · intro m hm
      have hm' : m < qs.length := by simpa [mkB] using hm
      rw [getD_map qs _ m 0 0 hm']
      have hk : kidF (mkB ts ⟨lf, ks, qs⟩) m = ts.getD (qs.getD m 0).toNat z47 := by
        unfold kidF mkB
        exact getD_map qs _ m z47 0 hm'
      rw [hk]
      have := hq _ (getD_mem qs m 0 hm')
      exact HT _ (by omega)
def sufA (A : Option Addr) (c m : Nat) : Option Addr := if c = m then A else A.map (·.add (m * 1))
theorem slice_suf (A : Option Addr) (n c m : Nat) (h1 : m ≤ n) (h2 : n ≤ c) (w : World) : (Instr.sliceAt 35 (.slice A n c) (some (.int .i64 (m : Int))) none none).run Try.prog w = .ok (.slice (sufA A c m) (n - m) (c - m)) w := by
  have q1 : ¬ ((m : Int) < 0) := by omega
  have q2 : (m : Int) ≤ (n : Int) := by omega
  have q3 : (0 : Int) ≤ (m : Int) := by omega
  have hu := Try.underlying35
  unfold Instr.sliceAt
  go_simp
  unfold sufA
  simp only [Nat.mul_one]
theorem slice_oper {ρ : Operand → Value} {o : Oper} {s lo : Operand} {A : Option Addr} {n c m : Nat} (ho : o.op = .slice 35 s (some lo) none none) (hs : ρ s = .slice A n c) (hlo : ρ lo = .int .i64 (m : Int)) (h1 : m ≤ n) (h2 : n ≤ c) (w : World) : (execOp ρ o).run Try.prog w = .ok (.value (.slice (sufA A c m) (n - m) (c - m))) w := by
  unfold execOp
  rw [ho]
  simp only [hs, hlo, Option.map_some, Option.map_none]
  rw [Sem.run_bind, slice_suf A n c m h1 h2 w]
  rfl
def BranchOut (ns : List S73) (root : Int) (e : Ending) (w' : World) : Prop := ∃ v b, e = .returned (.tuple #[v, .bool b]) ∧ ((branchF ns root = none ∧ v = .pointer none ∧ b = false) ∨ ∃ x, branchF ns root = some x ∧ b = true ∧ RepB ns.length w' x v)
set_option maxHeartbeats 8000000 in
theorem branch_walk (A : Option Addr) (c : Nat) (ns : List S73) (root : Int) (w : World) (hr : Kd.C k73 w A ns.length ns) (hc : ns.length ≤ c) (hsz : ∀ i, (nodeAt ns i).f1.length < 1099511627776 ∧ (nodeAt ns i).f2.length < 1099511627776) :
    Calls Try.prog 39 #[.agg #[.slice A ns.length c, .int .i64 root]] w fun e w' => BranchOut ns root e w' ∧ Below w.heap.size w w' := by
  have HR := Aside0.mk hr
  have HC := Aside0.mk hc
  have HSZ := Aside0.mk hsz
  have HB := Aside0.mk (Below.refl w.heap.size w)
  clear hr hc hsz
  by_cases hn : 200 < ns.length
  · have HF := Aside0.mk (show branchF ns root = none by unfold branchF; rw [if_pos hn])
    have hg : ¬ ((ns.length : Int) ≤ 200) := by omega
    have hg2 : decide ((ns.length : Int) > 200) = true := decide_eq_true (by omega)
    clear hn
    go_enter Try.func39, Try.ntmps39
    go_wp2_with ((with_reducible refine gate_dst (N := 1) rfl ?_); refine box_event ?hg (N := 1) ?hd (cs := #[.slice A ns.length c, .int .i64 root]) (t := 29) ?hr ?_; (case hd => rfl); (case hg => rfl); (case hr => first | (go_simp; done) | (go_simp; rfl)); intro gb hg w1 hbox hb; have HB1 := Aside0.mk (below_step HB.out hb); have hcz0 : w1.cell? ⟨gb, 0, none⟩ = some (.slice A ns.length c) := (blk_cell hbox 0).trans rfl; have hcz1 : w1.cell? ⟨gb, 1, none⟩ = some (.int .i64 root) := (blk_cell hbox 1).trans rfl; clear hb hbox hg HB)
    go_ret2
    exact ⟨⟨_, _, rfl, .inl ⟨HF.out, rfl, rfl⟩⟩, HB1.out⟩
  · have hg : (ns.length : Int) ≤ 200 := by omega
    have hg2 : decide ((ns.length : Int) > 200) = false := decide_eq_false (by omega)
    have HBF := Aside0.mk (show branchF ns root = (loadF ns ns.length).bind fun p => if p.2 = [root] then some (p.1.getD root.toNat z47) else none by unfold branchF; rw [if_neg hn])
    have HN := Aside0.mk (show ns.length ≤ 200 by omega)
    clear hn
    go_enter Try.func39, Try.ntmps39
    go_wp2_with (first | ((with_reducible refine gate_dst (N := 1) rfl ?_); refine box_event ?hg (N := 1) ?hd (cs := #[.slice A ns.length c, .int .i64 root]) (t := 29) ?hr ?_; (case hd => rfl); (case hg => rfl); (case hr => first | (go_simp; done) | (go_simp; rfl)); intro gb hg w1 hbox hb; have HB1 := Aside0.mk (below_step HB.out hb); have BK := Aside0.mk hbox; have hcz0 : w1.cell? ⟨gb, 0, none⟩ = some (.slice A ns.length c) := (blk_cell hbox 0).trans rfl; clear hb hbox hg HB) | ((with_reducible refine gate_dst (N := 16) rfl ?_); refine Kd.R_lit kP _ 51 ?hg (N := 16) ?hd (xs := ([] : List Nat)) (inner := []) (ok := fun _ => True) (okp := fun _ => True) ?hr ?hp (fun _ hk => hk) trivial (Below.refl _ _) (Nat.le_refl _) (by simp) ?_; (case hd => rfl); (case hg => rfl); (case hr => first | (go_simp; done) | (go_simp; rfl)); (case hp => exact (Reps.none _ _)); intro vA wA hoA hbA hgA hnA; clear hgA hnA; have HBA := Aside0.mk hbA; have HOA := Aside0.mk hoA; clear hbA hoA) | ((with_reducible refine gate_dst (N := 17) rfl ?_); refine Kd.R_lit (Kd.int .i64) _ 3 ?hg (N := 17) ?hd (xs := ([] : List Int)) (inner := []) (ok := fun _ => True) (okp := fun _ => True) ?hr ?hp (fun _ hk => hk) trivial (Below.refl _ _) (Nat.le_refl _) (by simp) ?_; (case hd => rfl); (case hg => rfl); (case hr => first | (go_simp; done) | (go_simp; rfl)); (case hp => exact (Reps.none _ _)); intro vO wO hoO hbO hgO hnO; clear hgO hnO; have HBO := Aside0.mk (below_step HBA.out hbO); have HOO := Aside0.mk (Kd.R_lower hoO (below_size HBA.out)); have HOA2 := Aside0.mk (Kd.R_below HOA.out hbO); have hcz1 : wO.cell? ⟨gb, 0, none⟩ = some (.slice A ns.length c) := (blk_cell (blk_below BK.out HBO.out) 0).trans rfl; clear hbO hoO HOA))
    go_loopg [4, 5, 21] ns.length (fun kq v4 v5 v21 w' => ∃ (i : Nat) (ts : List S47) (op : List Int) (gs : List Nat), v21 = .int .i64 (i : Int) ∧ i ≤ ns.length ∧ ns.length - i ≤ kq ∧ Aside0 (loadF ns i = some (ts, op)) ∧ Aside0 (gs.length = i) ∧ Aside0 (kP.R 51 w' w1.heap.size (fun _ => True) v4 gs) ∧ Aside0 ((Kd.int .i64).R 3 w' w1.heap.size (fun _ => True) v5 op) ∧ Aside0 (∀ j, j < i → RepO i w' w1.heap.size (fun k => some k ≠ v4.ownBlock) (ts.getD j z47) (gs.getD j 0)) ∧ Aside0 (Below w1.heap.size w1 w'))
    case atStart => exact ⟨0, [], [], [], rfl, Nat.zero_le _, Nat.le_of_eq (Nat.sub_zero _), ⟨rfl⟩, ⟨rfl⟩, HOA2, HOO, ⟨fun j hj => absurd hj (Nat.not_lt_zero j)⟩, HBO⟩
    case round =>
      clear HOA2 HOO HBO HBA hcz0 hcz1
      obtain ⟨i, ts, op, gs, rfl, hin, hkq, HLD, HGL, HVA, HVO, HT, HB2⟩ := hrel
      have hcz : wr.cell? ⟨gb, 0, none⟩ = some (.slice A ns.length c) := (blk_cell (blk_below BK.out HB2.out) 0).trans rfl
      by_cases hlt : i < ns.length
      · have pi : 0 ≤ (i : Int) := Int.natCast_nonneg i
        have qi : (i : Int) < (ns.length : Int) := Int.ofNat_lt.mpr hlt
        obtain ⟨Ao, co, eo⟩ := Kd.R_slice HVO.out
        subst eo
        obtain ⟨Aa, ca, ea⟩ := Kd.R_slice HVA.out
        subst ea
        have HWR := Aside0.mk (below_weaken HB1.out (below_size HB1.out) HB2.out)
        obtain ⟨adn, A1, c1, A2, c2, en, hx0, hx1, hx2, hl1, hi1, hl2, hi2⟩ := at_T73 (Kd.C_below HR.out HWR.out) (i : Int) pi qi
        cases en
        have hrd : rd_T73 ns (i : Int) = nodeAt ns i := by unfold rd_T73 nodeAt; rw [Int.toNat_natCast]
        obtain ⟨nd, hnd⟩ : ∃ nd, nodeAt ns i = nd := ⟨_, rfl⟩
        rw [hrd, hnd] at hx0 hx1 hx2 hl1 hi1 hl2 hi2
        rw [Int.toNat_natCast] at hx0 hx1 hx2
        obtain ⟨lf, ks, qs⟩ := nd
        have HND := Aside0.mk hnd
        have HI1 := Aside0.mk (show (Kd.int .i64).C wr A1 ks.length ks from hi1)
        have HI2 := Aside0.mk (show (Kd.int .i64).C wr A2 qs.length qs from hi2)
        have HL1 := Aside0.mk (show ks.length ≤ c1 from hl1)
        have HL2 := Aside0.mk (show qs.length ≤ c2 from hl2)
        clear hrd hnd hi1 hi2 hl1 hl2
        have HW := Aside0.mk (wrap_inc i (by have := HN.out; omega))
        have HME := Aside0.mk (meas_dec hkq hlt)
        have HLO := Aside0.mk (loadF_inv ns i ts op HLD.out)
        have HLT := Aside0.mk hlt
        clear hkq
        have hK : ks.length < 1099511627776 ∧ qs.length < 1099511627776 := by have := HSZ.out i; rw [HND.out] at this; exact this
        have hO : op.length ≤ 200 := by have := HLO.out.2.1; have := HN.out; omega
        have hws : wrap64 ((op.length : Int) - (qs.length : Int)) = (op.length : Int) - (qs.length : Int) := by unfold wrap64; omega
        have HK := Aside0.mk hK
        have HO := Aside0.mk hO
        clear hK hO
        go_upto_region 9 with fail
        (try simp only [Act.put, List.setIfInBounds_toArray, List.set_cons_zero, List.set_cons_succ])
        obtain ⟨Wn, hWn⟩ : ∃ Wn, wr.alloc (.cells #[.bool lf, .slice A1 ks.length c1, .slice A2 qs.length c2] 73 (0, 0)) = Wn := ⟨_, rfl⟩
        obtain ⟨gn, hgn⟩ : ∃ gn, wr.heap.size = gn := ⟨_, rfl⟩
        have hbn : Below wr.heap.size wr Wn := by rw [← hWn]; exact below_alloc (Below.refl _ _) _
        have BN := Aside0.mk (show Wn.heap[gn]? = some (.cells #[.bool lf, .slice A1 ks.length c1, .slice A2 qs.length c2] 73 (0, 0)) by rw [← hWn, ← hgn]; show (Array.push _ _)[_]? = _; rw [Array.getElem?_push_size])
        rw [hWn, hgn]
        have HVA2 := Aside0.mk (Kd.R_below HVA.out hbn)
        have HVO2 := Aside0.mk (Kd.R_below HVO.out hbn)
        have HT2 : Aside0 (∀ j, j < i → RepO i Wn w1.heap.size (fun k => some k ≠ (Value.slice Aa gs.length ca).ownBlock) (ts.getD j z47) (gs.getD j 0)) := ⟨fun j hj => RepO_below (HT.out j hj) hbn⟩
        have HB3 := Aside0.mk (below_then HB2.out (below_size HB2.out) hbn)
        have HJ1 := Aside0.mk (Kd.C_below HI1.out hbn)
        have HJ2 := Aside0.mk (Kd.C_below HI2.out hbn)
        clear HVA HVO HT HB2 HI1 HI2 hcz hx0 hx1 hx2 HWR hgn hWn hbn hlt hin pi qi
        obtain ⟨rs, hrs⟩ : ∃ rs, wrap64 ((op.length : Int) - (qs.length : Int)) = rs := ⟨_, rfl⟩
        rw [hrs]
        rw [hws] at hrs
        obtain ⟨b0, hb0⟩ : ∃ b, decide (qs.length = 0) = b := ⟨_, rfl⟩
        have hq0 : ((qs.length : Int) == 0) = b0 := by rw [← hb0, Bool.beq_eq_decide_eq]; exact decide_eq_decide.mpr (by omega)
        obtain ⟨SB, hSB⟩ : ∃ b, stepOk op ⟨lf, ks, qs⟩ = b := ⟨_, rfl⟩
        have hST : ((lf == b0) && decide (qs.length ≤ op.length) && decide (op.drop (op.length - qs.length) = qs)) = SB := by rw [← hb0]; exact hSB
        have HRS := Aside0.mk hrs
        have HSB := Aside0.mk hSB
        have HST := Aside0.mk hST
        clear hrs hws hb0 hSB hST
        have SD : Aside0 (∀ W : World, Below Wn.heap.size Wn W → W.cell? ⟨gn, 0, none⟩ = some (.bool lf) ∧ W.cell? ⟨gn, 2, none⟩ = some (.slice A2 qs.length c2)) := ⟨fun W hb => ⟨(blk_cell (blk_below BN.out hb) 0).trans rfl, (blk_cell (blk_below BN.out hb) 2).trans rfl⟩⟩
        go_cut [51] (fun v51 wc => v51 = .bool (!SB) ∧ Aside0 (Below Wn.heap.size Wn wc))
        case first =>
          have hd : Below Wn.heap.size Wn Wn.drew := below_drew1 (Below.refl _ _)
          rcases Bool.eq_false_or_eq_true (lf == b0) with h1 | h1
          case inr =>
            have HF : Aside0 (SB = false) := ⟨by rw [← HST.out, h1]; rfl⟩
            have hn1 : (lf != b0) = true := by unfold bne; rw [h1]; rfl
            refine start_ (n := 20) (S := fun w' => w'.cell? ⟨gn, 0, none⟩ = some (.bool lf) ∧ w'.cell? ⟨gn, 2, none⟩ = some (.slice A2 qs.length c2)) (ds := []) #[false, false, false, false, false, false, false, false, false, false, false, false, false, false, false, false, false, false, false, false] (by kernel_rfl) rfl rfl ⟨(SD.out _ hd).1, (SD.out _ hd).2⟩ (fun hHeld => ?_)
            refine pure_ (i := 0) (N := some 32) (v := ?_) (a' := ?_) #[true, false, false, false, false, false, false, false, false, false, false, false, false, false, false, false, false, false, false, false] rfl rfl (by kernel_rfl) (fun _ _ _ h => h) (Or.inl ⟨by rfl, ?_⟩) ?_ ?_
            rotate_left
            · intro w'
              go_simp
              with_reducible rfl
            rotate_left
            · simp only [Act.put, List.setIfInBounds_toArray, List.set_cons_zero, List.set_cons_succ, i64_w, i32_w]
              rfl
            refine pure_ (i := 2) (N := some 34) (v := ?_) (a' := ?_) #[true, false, true, false, false, false, false, false, false, false, false, false, false, false, false, false, false, false, false, false] rfl rfl (by kernel_rfl) (fun _ _ _ h => h) (Or.inl ⟨by rfl, ?_⟩) ?_ ?_
            rotate_left
            · intro w'
              go_simp
              with_reducible rfl
            rotate_left
            · simp only [Act.put, List.setIfInBounds_toArray, List.set_cons_zero, List.set_cons_succ, i64_w, i32_w]
              rfl
            refine take_ (i := 1) (N := some 33) (v := ?_) (a' := ?_) #[true, true, true, false, false, false, false, false, false, false, false, false, false, false, false, false, false, false, false, false] rfl rfl (by kernel_rfl) (fun _ _ _ h => h) (Or.inl ⟨by rfl, ?_⟩) hHeld ?_ ?_
            rotate_left
            · rintro w' ⟨s0, s1⟩
              go_simp
              with_reducible rfl
            rotate_left
            · simp only [Act.put, List.setIfInBounds_toArray, List.set_cons_zero, List.set_cons_succ, i64_w, i32_w]
              rfl
            refine take_ (i := 3) (N := some 35) (v := ?_) (a' := ?_) #[true, true, true, true, false, false, false, false, false, false, false, false, false, false, false, false, false, false, false, false] rfl rfl (by kernel_rfl) (fun _ _ _ h => h) (Or.inl ⟨by rfl, ?_⟩) hHeld ?_ ?_
            rotate_left
            · rintro w' ⟨s0, s1⟩
              go_simp
              with_reducible rfl
            rotate_left
            · simp only [Act.put, List.setIfInBounds_toArray, List.set_cons_zero, List.set_cons_succ, i64_w, i32_w]
              rfl
            refine pure_ (i := 4) (N := some 36) (v := ?_) (a' := ?_) #[true, true, true, true, true, false, false, false, false, false, false, false, false, false, false, false, false, false, false, false] rfl rfl (by kernel_rfl) (fun _ _ _ h => h) (Or.inl ⟨by rfl, ?_⟩) ?_ ?_
            rotate_left
            · intro w'
              go_simp
              with_reducible rfl
            rotate_left
            · simp only [Act.put, List.setIfInBounds_toArray, List.set_cons_zero, List.set_cons_succ, i64_w, i32_w]
              rfl
            refine pure_ (i := 5) (N := some 37) (v := ?_) (a' := ?_) #[true, true, true, true, true, true, false, false, false, false, false, false, false, false, false, false, false, false, false, false] rfl rfl (by kernel_rfl) (fun _ _ _ h => h) (Or.inl ⟨by rfl, ?_⟩) ?_ ?_
            rotate_left
            · intro w'
              go_simp
              with_reducible rfl
            rotate_left
            · simp only [Act.put, List.setIfInBounds_toArray, List.set_cons_zero, List.set_cons_succ, i64_w, i32_w]
              rfl
            refine pure_ (i := 6) (N := some 38) (v := ?_) (a' := ?_) #[true, true, true, true, true, true, true, false, false, false, false, false, false, false, false, false, false, false, false, false] rfl rfl (by kernel_rfl) (fun _ _ _ h => h) (Or.inl ⟨by rfl, ?_⟩) ?_ ?_
            rotate_left
            · intro w'
              go_simp
              with_reducible rfl
            rotate_left
            · simp only [Act.put, List.setIfInBounds_toArray, List.set_cons_zero, List.set_cons_succ, i64_w, i32_w]
              rfl
            refine pure_ (i := 7) (N := some 39) (v := ?_) (a' := ?_) #[true, true, true, true, true, true, true, true, false, false, false, false, false, false, false, false, false, false, false, false] rfl rfl (by kernel_rfl) (fun _ _ _ h => h) (Or.inl ⟨by rfl, ?_⟩) ?_ ?_
            rotate_left
            · intro w'
              go_simp
              with_reducible rfl
            rotate_left
            · simp only [Act.put, List.setIfInBounds_toArray, List.set_cons_zero, List.set_cons_succ, i64_w, i32_w]
              rfl
            refine pure_ (i := 8) (N := some 40) (v := undef) (a' := ?_) #[true, true, true, true, true, true, true, true, true, false, false, false, false, false, false, false, false, false, false, false] rfl rfl (by kernel_rfl) (fun _ _ _ h => h) (Or.inr ⟨by rfl, rfl⟩) ?_ ?_
            rotate_left
            · simp only [Act.put, List.setIfInBounds_toArray, List.set_cons_zero, List.set_cons_succ, i64_w, i32_w]
              rfl
            refine pure_ (i := 9) (N := some 41) (v := undef) (a' := ?_) #[true, true, true, true, true, true, true, true, true, true, false, false, false, false, false, false, false, false, false, false] rfl rfl (by kernel_rfl) (fun _ _ _ h => h) (Or.inr ⟨by rfl, rfl⟩) ?_ ?_
            rotate_left
            · simp only [Act.put, List.setIfInBounds_toArray, List.set_cons_zero, List.set_cons_succ, i64_w, i32_w]
              rfl
            refine pure_ (i := 10) (N := some 42) (v := ?_) (a' := ?_) #[true, true, true, true, true, true, true, true, true, true, true, false, false, false, false, false, false, false, false, false] rfl rfl (by kernel_rfl) (fun _ _ _ h => h) (Or.inl ⟨by rfl, ?_⟩) ?_ ?_
            rotate_left
            · intro w'
              go_simp
              with_reducible rfl
            rotate_left
            · simp only [Act.put, List.setIfInBounds_toArray, List.set_cons_zero, List.set_cons_succ, i64_w, i32_w]
              rfl
            refine pure_ (i := 11) (N := some 43) (v := ?_) (a' := ?_) #[true, true, true, true, true, true, true, true, true, true, true, true, false, false, false, false, false, false, false, false] rfl rfl (by kernel_rfl) (fun _ _ _ h => h) (Or.inl ⟨by rfl, ?_⟩) ?_ ?_
            rotate_left
            · intro w'
              go_simp
              with_reducible rfl
            rotate_left
            · simp only [Act.put, List.setIfInBounds_toArray, List.set_cons_zero, List.set_cons_succ, i64_w, i32_w]
              rfl
            refine pure_ (i := 12) (N := some 44) (v := undef) (a' := ?_) #[true, true, true, true, true, true, true, true, true, true, true, true, true, false, false, false, false, false, false, false] rfl rfl (by kernel_rfl) (fun _ _ _ h => h) (Or.inr ⟨by rfl, rfl⟩) ?_ ?_
            rotate_left
            · simp only [Act.put, List.setIfInBounds_toArray, List.set_cons_zero, List.set_cons_succ, i64_w, i32_w]
              rfl
            refine pure_ (i := 13) (N := some 45) (v := undef) (a' := ?_) #[true, true, true, true, true, true, true, true, true, true, true, true, true, true, false, false, false, false, false, false] rfl rfl (by kernel_rfl) (fun _ _ _ h => h) (Or.inr ⟨by rfl, rfl⟩) ?_ ?_
            rotate_left
            · simp only [Act.put, List.setIfInBounds_toArray, List.set_cons_zero, List.set_cons_succ, i64_w, i32_w]
              rfl
            refine pure_ (i := 14) (N := some 46) (v := undef) (a' := ?_) #[true, true, true, true, true, true, true, true, true, true, true, true, true, true, true, false, false, false, false, false] rfl rfl (by kernel_rfl) (fun _ _ _ h => h) (Or.inr ⟨by rfl, rfl⟩) ?_ ?_
            rotate_left
            · simp only [Act.put, List.setIfInBounds_toArray, List.set_cons_zero, List.set_cons_succ, i64_w, i32_w]
              rfl
            refine pure_ (i := 15) (N := some 47) (v := undef) (a' := ?_) #[true, true, true, true, true, true, true, true, true, true, true, true, true, true, true, true, false, false, false, false] rfl rfl (by kernel_rfl) (fun _ _ _ h => h) (Or.inr ⟨by rfl, rfl⟩) ?_ ?_
            rotate_left
            · simp only [Act.put, List.setIfInBounds_toArray, List.set_cons_zero, List.set_cons_succ, i64_w, i32_w]
              rfl
            refine pure_ (i := 16) (N := some 48) (v := undef) (a' := ?_) #[true, true, true, true, true, true, true, true, true, true, true, true, true, true, true, true, true, false, false, false] rfl rfl (by kernel_rfl) (fun _ _ _ h => h) (Or.inr ⟨by rfl, rfl⟩) ?_ ?_
            rotate_left
            · simp only [Act.put, List.setIfInBounds_toArray, List.set_cons_zero, List.set_cons_succ, i64_w, i32_w]
              rfl
            refine pure_ (i := 17) (N := some 49) (v := undef) (a' := ?_) #[true, true, true, true, true, true, true, true, true, true, true, true, true, true, true, true, true, true, false, false] rfl rfl (by kernel_rfl) (fun _ _ _ h => h) (Or.inr ⟨by rfl, rfl⟩) ?_ ?_
            rotate_left
            · simp only [Act.put, List.setIfInBounds_toArray, List.set_cons_zero, List.set_cons_succ, i64_w, i32_w]
              rfl
            refine pure_ (i := 18) (N := some 50) (v := undef) (a' := ?_) #[true, true, true, true, true, true, true, true, true, true, true, true, true, true, true, true, true, true, true, false] rfl rfl (by kernel_rfl) (fun _ _ _ h => h) (Or.inr ⟨by rfl, rfl⟩) ?_ ?_
            rotate_left
            · simp only [Act.put, List.setIfInBounds_toArray, List.set_cons_zero, List.set_cons_succ, i64_w, i32_w]
              rfl
            refine pure_ (i := 19) (N := some 51) (v := ?_) (a' := ?_) #[true, true, true, true, true, true, true, true, true, true, true, true, true, true, true, true, true, true, true, true] rfl rfl (by kernel_rfl) (fun _ _ _ h => h) (Or.inl ⟨by rfl, ?_⟩) ?_ ?_
            rotate_left
            · intro w'
              go_simp
              with_reducible rfl
            rotate_left
            · simp only [Act.put, List.setIfInBounds_toArray, List.set_cons_zero, List.set_cons_succ, i64_w, i32_w]
              rfl
            refine done_ (by kernel_rfl) ?_
            try go_wp2
            go_meet
            case rel => exact ⟨by rw [HF.out]; rfl, ⟨hd⟩⟩
          case inl =>
            have hn1 : (lf != b0) = false := by unfold bne; rw [h1]; rfl
            by_cases h2 : qs.length ≤ op.length
            case neg =>
              have HF : Aside0 (SB = false) := ⟨by rw [← HST.out, h1, decide_eq_false h2]; rfl⟩
              have hr0 : decide (rs < 0) = true := decide_eq_true (by have := HRS.out; omega)
              have hr1 : rs < 0 := of_decide_eq_true hr0
              clear h2
              refine start_ (n := 20) (S := fun w' => w'.cell? ⟨gn, 0, none⟩ = some (.bool lf) ∧ w'.cell? ⟨gn, 2, none⟩ = some (.slice A2 qs.length c2)) (ds := []) #[false, false, false, false, false, false, false, false, false, false, false, false, false, false, false, false, false, false, false, false] (by kernel_rfl) rfl rfl ⟨(SD.out _ hd).1, (SD.out _ hd).2⟩ (fun hHeld => ?_)
              refine pure_ (i := 0) (N := some 32) (v := ?_) (a' := ?_) #[true, false, false, false, false, false, false, false, false, false, false, false, false, false, false, false, false, false, false, false] rfl rfl (by kernel_rfl) (fun _ _ _ h => h) (Or.inl ⟨by rfl, ?_⟩) ?_ ?_
              rotate_left
              · intro w'
                go_simp
                with_reducible rfl
              rotate_left
              · simp only [Act.put, List.setIfInBounds_toArray, List.set_cons_zero, List.set_cons_succ, i64_w, i32_w]
                rfl
              refine pure_ (i := 2) (N := some 34) (v := ?_) (a' := ?_) #[true, false, true, false, false, false, false, false, false, false, false, false, false, false, false, false, false, false, false, false] rfl rfl (by kernel_rfl) (fun _ _ _ h => h) (Or.inl ⟨by rfl, ?_⟩) ?_ ?_
              rotate_left
              · intro w'
                go_simp
                with_reducible rfl
              rotate_left
              · simp only [Act.put, List.setIfInBounds_toArray, List.set_cons_zero, List.set_cons_succ, i64_w, i32_w]
                rfl
              refine take_ (i := 1) (N := some 33) (v := ?_) (a' := ?_) #[true, true, true, false, false, false, false, false, false, false, false, false, false, false, false, false, false, false, false, false] rfl rfl (by kernel_rfl) (fun _ _ _ h => h) (Or.inl ⟨by rfl, ?_⟩) hHeld ?_ ?_
              rotate_left
              · rintro w' ⟨s0, s1⟩
                go_simp
                with_reducible rfl
              rotate_left
              · simp only [Act.put, List.setIfInBounds_toArray, List.set_cons_zero, List.set_cons_succ, i64_w, i32_w]
                rfl
              refine take_ (i := 3) (N := some 35) (v := ?_) (a' := ?_) #[true, true, true, true, false, false, false, false, false, false, false, false, false, false, false, false, false, false, false, false] rfl rfl (by kernel_rfl) (fun _ _ _ h => h) (Or.inl ⟨by rfl, ?_⟩) hHeld ?_ ?_
              rotate_left
              · rintro w' ⟨s0, s1⟩
                go_simp
                with_reducible rfl
              rotate_left
              · simp only [Act.put, List.setIfInBounds_toArray, List.set_cons_zero, List.set_cons_succ, i64_w, i32_w]
                rfl
              refine pure_ (i := 4) (N := some 36) (v := ?_) (a' := ?_) #[true, true, true, true, true, false, false, false, false, false, false, false, false, false, false, false, false, false, false, false] rfl rfl (by kernel_rfl) (fun _ _ _ h => h) (Or.inl ⟨by rfl, ?_⟩) ?_ ?_
              rotate_left
              · intro w'
                go_simp
                with_reducible rfl
              rotate_left
              · simp only [Act.put, List.setIfInBounds_toArray, List.set_cons_zero, List.set_cons_succ, i64_w, i32_w]
                rfl
              refine pure_ (i := 5) (N := some 37) (v := ?_) (a' := ?_) #[true, true, true, true, true, true, false, false, false, false, false, false, false, false, false, false, false, false, false, false] rfl rfl (by kernel_rfl) (fun _ _ _ h => h) (Or.inl ⟨by rfl, ?_⟩) ?_ ?_
              rotate_left
              · intro w'
                go_simp
                with_reducible rfl
              rotate_left
              · simp only [Act.put, List.setIfInBounds_toArray, List.set_cons_zero, List.set_cons_succ, i64_w, i32_w]
                rfl
              refine pure_ (i := 6) (N := some 38) (v := ?_) (a' := ?_) #[true, true, true, true, true, true, true, false, false, false, false, false, false, false, false, false, false, false, false, false] rfl rfl (by kernel_rfl) (fun _ _ _ h => h) (Or.inl ⟨by rfl, ?_⟩) ?_ ?_
              rotate_left
              · intro w'
                go_simp
                with_reducible rfl
              rotate_left
              · simp only [Act.put, List.setIfInBounds_toArray, List.set_cons_zero, List.set_cons_succ, i64_w, i32_w]
                rfl
              refine pure_ (i := 7) (N := some 39) (v := ?_) (a' := ?_) #[true, true, true, true, true, true, true, true, false, false, false, false, false, false, false, false, false, false, false, false] rfl rfl (by kernel_rfl) (fun _ _ _ h => h) (Or.inl ⟨by rfl, ?_⟩) ?_ ?_
              rotate_left
              · intro w'
                go_simp
                with_reducible rfl
              rotate_left
              · simp only [Act.put, List.setIfInBounds_toArray, List.set_cons_zero, List.set_cons_succ, i64_w, i32_w]
                rfl
              refine pure_ (i := 8) (N := some 40) (v := ?_) (a' := ?_) #[true, true, true, true, true, true, true, true, true, false, false, false, false, false, false, false, false, false, false, false] rfl rfl (by kernel_rfl) (fun _ _ _ h => h) (Or.inl ⟨by rfl, ?_⟩) ?_ ?_
              rotate_left
              · intro w'
                go_simp
                with_reducible rfl
              rotate_left
              · simp only [Act.put, List.setIfInBounds_toArray, List.set_cons_zero, List.set_cons_succ, i64_w, i32_w]
                rfl
              refine pure_ (i := 9) (N := some 41) (v := ?_) (a' := ?_) #[true, true, true, true, true, true, true, true, true, true, false, false, false, false, false, false, false, false, false, false] rfl rfl (by kernel_rfl) (fun _ _ _ h => h) (Or.inl ⟨by rfl, ?_⟩) ?_ ?_
              rotate_left
              · intro w'
                go_simp
                with_reducible rfl
              rotate_left
              · simp only [Act.put, List.setIfInBounds_toArray, List.set_cons_zero, List.set_cons_succ, i64_w, i32_w]
                rfl
              refine pure_ (i := 10) (N := some 42) (v := ?_) (a' := ?_) #[true, true, true, true, true, true, true, true, true, true, true, false, false, false, false, false, false, false, false, false] rfl rfl (by kernel_rfl) (fun _ _ _ h => h) (Or.inl ⟨by rfl, ?_⟩) ?_ ?_
              rotate_left
              · intro w'
                go_simp
                with_reducible rfl
              rotate_left
              · simp only [Act.put, List.setIfInBounds_toArray, List.set_cons_zero, List.set_cons_succ, i64_w, i32_w]
                rfl
              refine pure_ (i := 11) (N := some 43) (v := ?_) (a' := ?_) #[true, true, true, true, true, true, true, true, true, true, true, true, false, false, false, false, false, false, false, false] rfl rfl (by kernel_rfl) (fun _ _ _ h => h) (Or.inl ⟨by rfl, ?_⟩) ?_ ?_
              rotate_left
              · intro w'
                go_simp
                with_reducible rfl
              rotate_left
              · simp only [Act.put, List.setIfInBounds_toArray, List.set_cons_zero, List.set_cons_succ, i64_w, i32_w]
                rfl
              refine pure_ (i := 12) (N := some 44) (v := undef) (a' := ?_) #[true, true, true, true, true, true, true, true, true, true, true, true, true, false, false, false, false, false, false, false] rfl rfl (by kernel_rfl) (fun _ _ _ h => h) (Or.inr ⟨by rfl, rfl⟩) ?_ ?_
              rotate_left
              · simp only [Act.put, List.setIfInBounds_toArray, List.set_cons_zero, List.set_cons_succ, i64_w, i32_w]
                rfl
              refine pure_ (i := 13) (N := some 45) (v := undef) (a' := ?_) #[true, true, true, true, true, true, true, true, true, true, true, true, true, true, false, false, false, false, false, false] rfl rfl (by kernel_rfl) (fun _ _ _ h => h) (Or.inr ⟨by rfl, rfl⟩) ?_ ?_
              rotate_left
              · simp only [Act.put, List.setIfInBounds_toArray, List.set_cons_zero, List.set_cons_succ, i64_w, i32_w]
                rfl
              refine pure_ (i := 14) (N := some 46) (v := undef) (a' := ?_) #[true, true, true, true, true, true, true, true, true, true, true, true, true, true, true, false, false, false, false, false] rfl rfl (by kernel_rfl) (fun _ _ _ h => h) (Or.inr ⟨by rfl, rfl⟩) ?_ ?_
              rotate_left
              · simp only [Act.put, List.setIfInBounds_toArray, List.set_cons_zero, List.set_cons_succ, i64_w, i32_w]
                rfl
              refine pure_ (i := 15) (N := some 47) (v := undef) (a' := ?_) #[true, true, true, true, true, true, true, true, true, true, true, true, true, true, true, true, false, false, false, false] rfl rfl (by kernel_rfl) (fun _ _ _ h => h) (Or.inr ⟨by rfl, rfl⟩) ?_ ?_
              rotate_left
              · simp only [Act.put, List.setIfInBounds_toArray, List.set_cons_zero, List.set_cons_succ, i64_w, i32_w]
                rfl
              refine pure_ (i := 16) (N := some 48) (v := undef) (a' := ?_) #[true, true, true, true, true, true, true, true, true, true, true, true, true, true, true, true, true, false, false, false] rfl rfl (by kernel_rfl) (fun _ _ _ h => h) (Or.inr ⟨by rfl, rfl⟩) ?_ ?_
              rotate_left
              · simp only [Act.put, List.setIfInBounds_toArray, List.set_cons_zero, List.set_cons_succ, i64_w, i32_w]
                rfl
              refine pure_ (i := 17) (N := some 49) (v := undef) (a' := ?_) #[true, true, true, true, true, true, true, true, true, true, true, true, true, true, true, true, true, true, false, false] rfl rfl (by kernel_rfl) (fun _ _ _ h => h) (Or.inr ⟨by rfl, rfl⟩) ?_ ?_
              rotate_left
              · simp only [Act.put, List.setIfInBounds_toArray, List.set_cons_zero, List.set_cons_succ, i64_w, i32_w]
                rfl
              refine pure_ (i := 18) (N := some 50) (v := undef) (a' := ?_) #[true, true, true, true, true, true, true, true, true, true, true, true, true, true, true, true, true, true, true, false] rfl rfl (by kernel_rfl) (fun _ _ _ h => h) (Or.inr ⟨by rfl, rfl⟩) ?_ ?_
              rotate_left
              · simp only [Act.put, List.setIfInBounds_toArray, List.set_cons_zero, List.set_cons_succ, i64_w, i32_w]
                rfl
              refine pure_ (i := 19) (N := some 51) (v := ?_) (a' := ?_) #[true, true, true, true, true, true, true, true, true, true, true, true, true, true, true, true, true, true, true, true] rfl rfl (by kernel_rfl) (fun _ _ _ h => h) (Or.inl ⟨by rfl, ?_⟩) ?_ ?_
              rotate_left
              · intro w'
                go_simp
                with_reducible rfl
              rotate_left
              · simp only [Act.put, List.setIfInBounds_toArray, List.set_cons_zero, List.set_cons_succ, i64_w, i32_w]
                rfl
              refine done_ (by kernel_rfl) ?_
              try go_wp2
              go_meet
              case rel => exact ⟨by rw [HF.out]; rfl, ⟨hd⟩⟩
            case pos =>
              obtain ⟨rn, hrn⟩ : ∃ rn : Nat, rn = op.length - qs.length := ⟨_, rfl⟩
              obtain rfl : rs = (rn : Int) := by have := HRS.out; omega
              obtain ⟨b3, hb3⟩ : ∃ b, decide (op.drop rn = qs) = b := ⟨_, rfl⟩
              have HF : Aside0 (SB = b3) := ⟨by rw [← HST.out, h1, decide_eq_true h2, ← hb3, hrn]; rfl⟩
              have hr0 : decide ((rn : Int) < 0) = false := decide_eq_false (by omega)
              have hr1 : ¬ ((rn : Int) < 0) := by omega
              have hr2 : (0 : Int) ≤ (rn : Int) := by omega
              have hr3 : (rn : Int) ≤ (op.length : Int) := by omega
              have hco := (Kd.R_reads' HVO2.out).2.1
              have hr4 : (rn : Int) ≤ (co : Int) := by omega
              have EQ : Aside0 (∀ W : World, Below Wn.heap.size Wn W → Calls Try.prog 48 #[.slice (sufA Ao co rn) (op.length - rn) (co - rn), .slice A2 qs.length c2] W fun e w' => e = .returned (.bool b3) ∧ Below W.heap.size W w') := ⟨fun W hb => by
                have hdl : (op.drop rn).length = op.length - rn := List.length_drop ..
                have hCd := Kd.C_drop (c := co) (m := rn) (Kd.C_below (Kd.R_reads' HVO2.out).2.2 hb) (by omega) hco
                have := slices_Equal_int_int.calls ((op.drop rn).length + 1) _ (co - rn) (op.drop rn) A2 c2 qs b3 W hCd (by rw [hdl]; omega) (Kd.C_below HJ2.out hb) HL2.out (by rw [equal_val _ _ (by rw [hdl]; have := HO.out; omega), hb3])
                rw [hdl] at this
                exact this.mono (fun e w' h => ⟨h.1, h.2.below⟩)⟩
              obtain ⟨SA, hSA⟩ : ∃ SA, (if co = rn then Ao else Option.map (fun x => x.add rn) Ao) = SA := ⟨_, rfl⟩
              have hsf : sufA Ao co rn = SA := by unfold sufA; simp only [Nat.mul_one]; exact hSA
              rw [hsf] at EQ
              clear hsf
              clear h2 hb3 hrn
              refine start_ (n := 20) (S := fun w' => w'.cell? ⟨gn, 0, none⟩ = some (.bool lf) ∧ w'.cell? ⟨gn, 2, none⟩ = some (.slice A2 qs.length c2)) (ds := []) #[false, false, false, false, false, false, false, false, false, false, false, false, false, false, false, false, false, false, false, false] (by kernel_rfl) rfl rfl ⟨(SD.out _ hd).1, (SD.out _ hd).2⟩ (fun hHeld => ?_)
              refine pure_ (i := 0) (N := some 32) (v := ?_) (a' := ?_) #[true, false, false, false, false, false, false, false, false, false, false, false, false, false, false, false, false, false, false, false] rfl rfl (by kernel_rfl) (fun _ _ _ h => h) (Or.inl ⟨by rfl, ?_⟩) ?_ ?_
              rotate_left
              · intro w'
                go_simp
                with_reducible rfl
              rotate_left
              · simp only [Act.put, List.setIfInBounds_toArray, List.set_cons_zero, List.set_cons_succ, i64_w, i32_w]
                rfl
              refine pure_ (i := 2) (N := some 34) (v := ?_) (a' := ?_) #[true, false, true, false, false, false, false, false, false, false, false, false, false, false, false, false, false, false, false, false] rfl rfl (by kernel_rfl) (fun _ _ _ h => h) (Or.inl ⟨by rfl, ?_⟩) ?_ ?_
              rotate_left
              · intro w'
                go_simp
                with_reducible rfl
              rotate_left
              · simp only [Act.put, List.setIfInBounds_toArray, List.set_cons_zero, List.set_cons_succ, i64_w, i32_w]
                rfl
              refine take_ (i := 1) (N := some 33) (v := ?_) (a' := ?_) #[true, true, true, false, false, false, false, false, false, false, false, false, false, false, false, false, false, false, false, false] rfl rfl (by kernel_rfl) (fun _ _ _ h => h) (Or.inl ⟨by rfl, ?_⟩) hHeld ?_ ?_
              rotate_left
              · rintro w' ⟨s0, s1⟩
                go_simp
                with_reducible rfl
              rotate_left
              · simp only [Act.put, List.setIfInBounds_toArray, List.set_cons_zero, List.set_cons_succ, i64_w, i32_w]
                rfl
              refine take_ (i := 3) (N := some 35) (v := ?_) (a' := ?_) #[true, true, true, true, false, false, false, false, false, false, false, false, false, false, false, false, false, false, false, false] rfl rfl (by kernel_rfl) (fun _ _ _ h => h) (Or.inl ⟨by rfl, ?_⟩) hHeld ?_ ?_
              rotate_left
              · rintro w' ⟨s0, s1⟩
                go_simp
                with_reducible rfl
              rotate_left
              · simp only [Act.put, List.setIfInBounds_toArray, List.set_cons_zero, List.set_cons_succ, i64_w, i32_w]
                rfl
              refine pure_ (i := 4) (N := some 36) (v := ?_) (a' := ?_) #[true, true, true, true, true, false, false, false, false, false, false, false, false, false, false, false, false, false, false, false] rfl rfl (by kernel_rfl) (fun _ _ _ h => h) (Or.inl ⟨by rfl, ?_⟩) ?_ ?_
              rotate_left
              · intro w'
                go_simp
                with_reducible rfl
              rotate_left
              · simp only [Act.put, List.setIfInBounds_toArray, List.set_cons_zero, List.set_cons_succ, i64_w, i32_w]
                rfl
              refine pure_ (i := 5) (N := some 37) (v := ?_) (a' := ?_) #[true, true, true, true, true, true, false, false, false, false, false, false, false, false, false, false, false, false, false, false] rfl rfl (by kernel_rfl) (fun _ _ _ h => h) (Or.inl ⟨by rfl, ?_⟩) ?_ ?_
              rotate_left
              · intro w'
                go_simp
                with_reducible rfl
              rotate_left
              · simp only [Act.put, List.setIfInBounds_toArray, List.set_cons_zero, List.set_cons_succ, i64_w, i32_w]
                rfl
              refine pure_ (i := 6) (N := some 38) (v := ?_) (a' := ?_) #[true, true, true, true, true, true, true, false, false, false, false, false, false, false, false, false, false, false, false, false] rfl rfl (by kernel_rfl) (fun _ _ _ h => h) (Or.inl ⟨by rfl, ?_⟩) ?_ ?_
              rotate_left
              · intro w'
                go_simp
                with_reducible rfl
              rotate_left
              · simp only [Act.put, List.setIfInBounds_toArray, List.set_cons_zero, List.set_cons_succ, i64_w, i32_w]
                rfl
              refine pure_ (i := 7) (N := some 39) (v := ?_) (a' := ?_) #[true, true, true, true, true, true, true, true, false, false, false, false, false, false, false, false, false, false, false, false] rfl rfl (by kernel_rfl) (fun _ _ _ h => h) (Or.inl ⟨by rfl, ?_⟩) ?_ ?_
              rotate_left
              · intro w'
                go_simp
                with_reducible rfl
              rotate_left
              · simp only [Act.put, List.setIfInBounds_toArray, List.set_cons_zero, List.set_cons_succ, i64_w, i32_w]
                rfl
              refine pure_ (i := 8) (N := some 40) (v := ?_) (a' := ?_) #[true, true, true, true, true, true, true, true, true, false, false, false, false, false, false, false, false, false, false, false] rfl rfl (by kernel_rfl) (fun _ _ _ h => h) (Or.inl ⟨by rfl, ?_⟩) ?_ ?_
              rotate_left
              · intro w'
                go_simp
                with_reducible rfl
              rotate_left
              · simp only [Act.put, List.setIfInBounds_toArray, List.set_cons_zero, List.set_cons_succ, i64_w, i32_w]
                rfl
              refine pure_ (i := 9) (N := some 41) (v := ?_) (a' := ?_) #[true, true, true, true, true, true, true, true, true, true, false, false, false, false, false, false, false, false, false, false] rfl rfl (by kernel_rfl) (fun _ _ _ h => h) (Or.inl ⟨by rfl, ?_⟩) ?_ ?_
              rotate_left
              · intro w'
                go_simp
                with_reducible rfl
              rotate_left
              · simp only [Act.put, List.setIfInBounds_toArray, List.set_cons_zero, List.set_cons_succ, i64_w, i32_w]
                rfl
              refine pure_ (i := 10) (N := some 42) (v := ?_) (a' := ?_) #[true, true, true, true, true, true, true, true, true, true, true, false, false, false, false, false, false, false, false, false] rfl rfl (by kernel_rfl) (fun _ _ _ h => h) (Or.inl ⟨by rfl, ?_⟩) ?_ ?_
              rotate_left
              · intro w'
                go_simp
                with_reducible rfl
              rotate_left
              · simp only [Act.put, List.setIfInBounds_toArray, List.set_cons_zero, List.set_cons_succ, i64_w, i32_w]
                rfl
              refine pure_ (i := 11) (N := some 43) (v := ?_) (a' := ?_) #[true, true, true, true, true, true, true, true, true, true, true, true, false, false, false, false, false, false, false, false] rfl rfl (by kernel_rfl) (fun _ _ _ h => h) (Or.inl ⟨by rfl, ?_⟩) ?_ ?_
              rotate_left
              · intro w'
                go_simp
                with_reducible rfl
              rotate_left
              · simp only [Act.put, List.setIfInBounds_toArray, List.set_cons_zero, List.set_cons_succ, i64_w, i32_w]
                rfl
              refine pure_ (i := 12) (N := some 44) (v := ?_) (a' := ?_) #[true, true, true, true, true, true, true, true, true, true, true, true, true, false, false, false, false, false, false, false] rfl rfl (by kernel_rfl) (fun _ _ _ h => h) (Or.inl ⟨by rfl, ?_⟩) ?_ ?_
              rotate_left
              · intro w'
                go_simp
                with_reducible rfl
              rotate_left
              · simp only [Act.put, List.setIfInBounds_toArray, List.set_cons_zero, List.set_cons_succ, i64_w, i32_w]
                rfl
              refine pure_ (i := 13) (N := some 45) (v := ?_) (a' := ?_) #[true, true, true, true, true, true, true, true, true, true, true, true, true, true, false, false, false, false, false, false] rfl rfl (by kernel_rfl) (fun _ _ _ h => h) (Or.inl ⟨by rfl, ?_⟩) ?_ ?_
              rotate_left
              · intro w'
                go_simp
                with_reducible rfl
              rotate_left
              · simp only [Act.put, List.setIfInBounds_toArray, List.set_cons_zero, List.set_cons_succ, i64_w, i32_w]
                rfl
              refine pure_ (i := 14) (N := some 46) (v := ?_) (a' := ?_) #[true, true, true, true, true, true, true, true, true, true, true, true, true, true, true, false, false, false, false, false] rfl rfl (by kernel_rfl) (fun _ _ _ h => h) (Or.inl ⟨by rfl, ?_⟩) ?_ ?_
              rotate_left
              · intro w'
                go_simp
                with_reducible rfl
              rotate_left
              · simp only [Act.put, List.setIfInBounds_toArray, List.set_cons_zero, List.set_cons_succ, i64_w, i32_w]
                rfl
              refine pure_ (i := 15) (N := some 47) (v := ?_) (a' := ?_) #[true, true, true, true, true, true, true, true, true, true, true, true, true, true, true, true, false, false, false, false] rfl rfl (by kernel_rfl) (fun _ _ _ h => h) (Or.inl ⟨by rfl, ?_⟩) ?_ ?_
              rotate_left
              · intro w'
                go_simp
                with_reducible rfl
              rotate_left
              · simp only [Act.put, List.setIfInBounds_toArray, List.set_cons_zero, List.set_cons_succ, i64_w, i32_w]
                rfl
              refine take_ (i := 16) (N := some 48) (v := ?_) (a' := ?_) #[true, true, true, true, true, true, true, true, true, true, true, true, true, true, true, true, true, false, false, false] rfl rfl (by kernel_rfl) (fun _ _ _ h => h) (Or.inl ⟨by rfl, ?_⟩) hHeld ?_ ?_
              rotate_left
              · rintro w' ⟨s0, s1⟩
                go_simp
                with_reducible rfl
              rotate_left
              · simp only [Act.put, List.setIfInBounds_toArray, List.set_cons_zero, List.set_cons_succ, i64_w, i32_w]
                rfl
              refine one_ (i := 17) (N := some 49) #[true, true, true, true, true, true, true, true, true, true, true, true, true, true, true, true, true, true, false, false] rfl rfl (by kernel_rfl) (by decide) (fun K hK => ?_)
              refine goes_ Try.func48 (by kernel_rfl) rfl #[.slice SA (op.length - rn) (co - rn), .slice A2 qs.length c2] (by rfl) rfl rfl (by simp only [List.map_toArray, List.map_cons, List.map_nil]; rfl) ?_
              with_reducible refine (EQ.out _ hd).mono ?_
              rintro e w3 ⟨rfl, hb_⟩
              refine ⟨_, rfl, ?_⟩
              have hB3 : Below Wn.heap.size Wn w3 := below_step hd hb_
              clear hb_
              refine hK.out _ _ ⟨(SD.out _ hB3).1, (SD.out _ hB3).2⟩ (fun hHeld => ?_)
              clear hK K
              refine norm_ (a' := ?_) ?_ ?_
              rotate_left
              · show Act.put _ (some 49) _ = _
                simp only [Act.put, List.setIfInBounds_toArray, List.set_cons_zero, List.set_cons_succ, i64_w, i32_w]
                rfl
              refine pure_ (i := 18) (N := some 50) (v := ?_) (a' := ?_) #[true, true, true, true, true, true, true, true, true, true, true, true, true, true, true, true, true, true, true, false] rfl rfl (by kernel_rfl) (fun _ _ _ h => h) (Or.inl ⟨by rfl, ?_⟩) ?_ ?_
              rotate_left
              · intro w'
                go_simp
                with_reducible rfl
              rotate_left
              · simp only [Act.put, List.setIfInBounds_toArray, List.set_cons_zero, List.set_cons_succ, i64_w, i32_w]
                rfl
              refine pure_ (i := 19) (N := some 51) (v := ?_) (a' := ?_) #[true, true, true, true, true, true, true, true, true, true, true, true, true, true, true, true, true, true, true, true] rfl rfl (by kernel_rfl) (fun _ _ _ h => h) (Or.inl ⟨by rfl, ?_⟩) ?_ ?_
              rotate_left
              · intro w'
                go_simp
                with_reducible rfl
              rotate_left
              · simp only [Act.put, List.setIfInBounds_toArray, List.set_cons_zero, List.set_cons_succ, i64_w, i32_w]
                rfl
              refine done_ (by kernel_rfl) ?_
              try go_wp2
              go_meet
              case rel => exact ⟨by rw [HF.out], ⟨hB3⟩⟩
        case rest =>
          obtain ⟨rfl, HBc⟩ := hcut
          clear hq0 HST
          cases SB with
          | false =>
            have HBF2 := Aside0.mk (show branchF ns root = none by rw [HBF.out, loadF_stop ns HLD.out HLT.out (by rw [HND.out]; exact HSB.out)]; rfl)
            have hBe : Below w1.heap.size w1 wc := below_then HB3.out (below_size HB3.out) HBc.out
            have hBe2 : Below w.heap.size w wc := below_weaken HB1.out (below_size HB1.out) hBe
            go_wp2
            go_ret2
            exact ⟨⟨_, _, rfl, .inl ⟨HBF2.out, rfl, rfl⟩⟩, hBe2⟩
          | true =>
            have hq1 : wc.cell? ⟨gn, 1, none⟩ = some (.slice A1 ks.length c1) := (blk_cell (blk_below BN.out HBc.out) 1).trans rfl
            obtain ⟨hst, hdr⟩ := (Bool.and_eq_true _ _).mp HSB.out
            have hst2 : qs.length ≤ op.length := of_decide_eq_true ((Bool.and_eq_true _ _).mp hst).2
            obtain ⟨rn, hrn⟩ : ∃ rn : Nat, rn = op.length - qs.length := ⟨_, rfl⟩
            obtain rfl : rs = (rn : Int) := by have := HRS.out; omega
            have HDR := Aside0.mk (show op.drop rn = qs by rw [hrn]; exact of_decide_eq_true hdr)
            have HRN := Aside0.mk (show rn ≤ op.length ∧ op.length - qs.length = rn from ⟨by omega, hrn.symm⟩)
            have HQI := Aside0.mk (show ∀ k, k ∈ qs → 0 ≤ k ∧ k < (i : Int) from fun k hk => HLO.out.2.2 k (List.mem_of_mem_drop (by rw [HDR.out]; exact hk)))
            clear hst hdr hst2 hrn HRS
            go_wp2_with (first | (go_at_call 49; refine (cloneI A1 c1 ks _ HK.out.1 (Kd.C_below HJ1.out HBc.out) HL1.out).mono ?_; rintro e w4 ⟨vk, rfl, hok, hb4⟩; obtain ⟨Ak, ck, ek⟩ := Kd.R_slice hok; subst ek; have HV4 := Aside0.mk hok; have HB4 := Aside0.mk hb4; clear hok hb4) | ((with_reducible refine gate_dst (N := 56) rfl ?_); refine box_event ?hg (N := 56) ?hd (cs := #[.slice Ak ks.length ck, .slice none 0 0]) (t := 65) ?hr ?_; (case hd => rfl); (case hg => rfl); (case hr => first | (go_simp; done) | (go_simp; rfl)); intro g9 hg w5 hbox hb; have HB5 := Aside0.mk (below_step HB4.out hb); have HG5 := Aside0.mk hbox; have HV5 := Aside0.mk (Kd.R_below HV4.out hb); have GE9 := Aside0.mk ((by rw [hg]; exact below_size HB4.out) : wc.heap.size ≤ g9); have HC5 := Aside0.mk (below_then HBc.out (below_size HBc.out) HB5.out); have q2 : w5.cell? ⟨gn, 2, none⟩ = some (.slice A2 qs.length c2) := (SD.out _ HC5.out).2; clear hb hbox hg HV4 HB4))
            clear hq1
            have HQ5 := Aside0.mk (Kd.R_nil kP 51 w5 wc.heap.size (fun _ => True))
            go_loopg [60] qs.length (fun kq v60 w' => ∃ (j : Nat) (vq : Value), v60 = .int .i64 (j : Int) ∧ j ≤ qs.length ∧ qs.length - j ≤ kq ∧ Aside0 (w'.heap[g9]? = some (.cells #[.slice Ak ks.length ck, vq] 65 (0, 0))) ∧ Aside0 ((Kd.int .i64).R 3 w' wc.heap.size (fun _ => True) (.slice Ak ks.length ck) ks) ∧ Aside0 (kP.R 51 w' wc.heap.size (fun _ => True) vq ((qs.take j).map (fun k => gs.getD k.toNat 0))) ∧ Aside0 (Below wc.heap.size wc w'))
            case atStart => exact ⟨0, _, rfl, Nat.zero_le _, Nat.le_of_eq (Nat.sub_zero _), HG5, HV5, HQ5, HB5⟩
            case round =>
              clear HG5 HV5 HQ5 HB5 HC5 q2
              obtain ⟨j, vq, rfl, hjn, hjk, HG, HV, HQ, HBL⟩ := hrel
              by_cases hjl : j < qs.length
              · have pj : 0 ≤ (j : Int) := Int.natCast_nonneg j
                have qj : (j : Int) < (qs.length : Int) := Int.ofNat_lt.mpr hjl
                obtain ⟨adq, eq, hxq⟩ := Kd.at_int (Kd.C_below (Kd.C_below HJ2.out HBc.out) HBL.out) (j : Int) pj qj
                cases eq
                rw [rd_get, Int.toNat_natCast] at hxq
                have hkm := HQI.out _ (getD_mem qs j 0 hjl)
                obtain ⟨kn, hkn⟩ : ∃ kn : Nat, qs.getD j 0 = (kn : Int) := ⟨(qs.getD j 0).toNat, by omega⟩
                rw [hkn] at hxq hkm
                have hki : kn < gs.length := by have := HGL.out; omega
                obtain ⟨ada, ea, hca⟩ := at_P (Kd.R_reads' HVA2.out).2.2 kn hki
                cases ea
                obtain ⟨gx, hgx⟩ : ∃ gx, gs.getD kn 0 = gx := ⟨_, rfl⟩
                rw [hgx] at hca
                have FC : Aside0 (∀ W : World, Below wc.heap.size wc W → W.cell? (ada.add kn) = some (.pointer (some ⟨gx, 0, none⟩))) := ⟨fun W hb => (hb.cell (Nat.lt_of_lt_of_le (World.block_lt_of_cell? _ _ hca) (below_size HBc.out))).trans ((HBc.out.cell (World.block_lt_of_cell? _ _ hca)).trans hca)⟩
                have HXS := Aside0.mk (show (qs.take (j + 1)).map (fun k => gs.getD k.toNat 0) = (qs.take j).map (fun k => gs.getD k.toNat 0) ++ [gx] by rw [take_next _ _ _ hjl, hkn, Int.toNat_natCast, hgx])
                have HXL := Aside0.mk (show ((qs.take j).map (fun k => gs.getD k.toNat 0)).length < 1099511627776 by rw [List.length_map, List.length_take]; have := HK.out.2; omega)
                have HW2 := Aside0.mk (wrap_inc j (by have := HK.out.2; omega))
                have HME2 := Aside0.mk (meas_dec hjk hjl)
                have pk0 : 0 ≤ (kn : Int) := Int.natCast_nonneg kn
                have qk0 : (kn : Int) < (gs.length : Int) := Int.ofNat_lt.mpr hki
                obtain ⟨XS, hXS⟩ : ∃ XS, (qs.take j).map (fun k => gs.getD k.toNat 0) = XS := ⟨_, rfl⟩
                rw [hXS] at HXS HXL HQ
                have hd := below_drew1 HBL.out
                have hq9 : wr.cell? ⟨g9, 1, none⟩ = some vq := (blk_cell HG.out 1).trans rfl
                clear hXS hgx hkn hca hjk hkm
                go_upto_region 15 with fail
                (try simp only [Act.put, List.setIfInBounds_toArray, List.set_cons_zero, List.set_cons_succ])
                refine start_ (n := 14) (S := fun w' => w'.cell? ⟨g9, 1, none⟩ = some vq ∧ w'.cell? (ada.add kn) = some (.pointer (some ⟨gx, 0, none⟩))) (ds := [13]) #[false, false, false, false, false, false, false, false, false, false, false, false, false, false] (by kernel_rfl) rfl rfl ⟨(blk_cell (blk_drew HG.out) 1).trans rfl, FC.out _ hd⟩ (fun hHeld => ?_)
                refine pure_ (i := 0) (N := some 64) (v := ?_) (a' := ?_) #[true, false, false, false, false, false, false, false, false, false, false, false, false, false] rfl rfl (by kernel_rfl) (fun _ _ _ h => h) (Or.inl ⟨by rfl, ?_⟩) ?_ ?_
                rotate_left
                · intro w'
                  go_simp
                  with_reducible rfl
                rotate_left
                · simp only [Act.put, List.setIfInBounds_toArray, List.set_cons_zero, List.set_cons_succ, i64_w, i32_w]
                  rfl
                refine pure_ (i := 1) (N := some 65) (v := ?_) (a' := ?_) #[true, true, false, false, false, false, false, false, false, false, false, false, false, false] rfl rfl (by kernel_rfl) (fun _ _ _ h => h) (Or.inl ⟨by rfl, ?_⟩) ?_ ?_
                rotate_left
                · intro w'
                  go_simp
                  with_reducible rfl
                rotate_left
                · simp only [Act.put, List.setIfInBounds_toArray, List.set_cons_zero, List.set_cons_succ, i64_w, i32_w]
                  rfl
                refine pure_ (i := 2) (N := some 66) (v := ?_) (a' := ?_) #[true, true, true, false, false, false, false, false, false, false, false, false, false, false] rfl rfl (by kernel_rfl) (fun _ _ _ h => h) (Or.inl ⟨by rfl, ?_⟩) ?_ ?_
                rotate_left
                · intro w'
                  go_simp
                  with_reducible rfl
                rotate_left
                · simp only [Act.put, List.setIfInBounds_toArray, List.set_cons_zero, List.set_cons_succ, i64_w, i32_w]
                  rfl
                refine pure_ (i := 3) (N := some 67) (v := ?_) (a' := ?_) #[true, true, true, true, false, false, false, false, false, false, false, false, false, false] rfl rfl (by kernel_rfl) (fun _ _ _ h => h) (Or.inl ⟨by rfl, ?_⟩) ?_ ?_
                rotate_left
                · intro w'
                  go_simp
                  with_reducible rfl
                rotate_left
                · simp only [Act.put, List.setIfInBounds_toArray, List.set_cons_zero, List.set_cons_succ, i64_w, i32_w]
                  rfl
                refine pure_ (i := 5) (N := some 69) (v := ?_) (a' := ?_) #[true, true, true, true, false, true, false, false, false, false, false, false, false, false] rfl rfl (by kernel_rfl) (fun _ _ _ h => h) (Or.inl ⟨by rfl, ?_⟩) ?_ ?_
                rotate_left
                · intro w'
                  go_simp
                  with_reducible rfl
                rotate_left
                · simp only [Act.put, List.setIfInBounds_toArray, List.set_cons_zero, List.set_cons_succ, i64_w, i32_w]
                  rfl
                refine pure_ (i := 6) (N := some 70) (v := ?_) (a' := ?_) #[true, true, true, true, false, true, true, false, false, false, false, false, false, false] rfl rfl (by kernel_rfl) (fun _ _ _ h => h) (Or.inl ⟨by rfl, ?_⟩) ?_ ?_
                rotate_left
                · intro w'
                  go_simp
                  with_reducible rfl
                rotate_left
                · simp only [Act.put, List.setIfInBounds_toArray, List.set_cons_zero, List.set_cons_succ, i64_w, i32_w]
                  rfl
                refine pure_ (i := 7) (N := some 71) (v := ?_) (a' := ?_) #[true, true, true, true, false, true, true, true, false, false, false, false, false, false] rfl rfl (by kernel_rfl) (fun _ _ _ h => h) (Or.inl ⟨by rfl, ?_⟩) ?_ ?_
                rotate_left
                · intro w'
                  go_simp
                  with_reducible rfl
                rotate_left
                · simp only [Act.put, List.setIfInBounds_toArray, List.set_cons_zero, List.set_cons_succ, i64_w, i32_w]
                  rfl
                refine take_ (i := 4) (N := some 68) (v := ?_) (a' := ?_) #[true, true, true, true, true, true, true, true, false, false, false, false, false, false] rfl rfl (by kernel_rfl) (fun _ _ _ h => h) (Or.inl ⟨by rfl, ?_⟩) hHeld ?_ ?_
                rotate_left
                · rintro w' ⟨s0, s1⟩
                  go_simp
                  with_reducible rfl
                rotate_left
                · simp only [Act.put, List.setIfInBounds_toArray, List.set_cons_zero, List.set_cons_succ, i64_w, i32_w]
                  rfl
                refine take_ (i := 8) (N := some 72) (v := ?_) (a' := ?_) #[true, true, true, true, true, true, true, true, true, false, false, false, false, false] rfl rfl (by kernel_rfl) (fun _ _ _ h => h) (Or.inl ⟨by rfl, ?_⟩) hHeld ?_ ?_
                rotate_left
                · rintro w' ⟨s0, s1⟩
                  go_simp
                  with_reducible rfl
                rotate_left
                · simp only [Act.put, List.setIfInBounds_toArray, List.set_cons_zero, List.set_cons_succ, i64_w, i32_w]
                  rfl
                refine one_ (i := 9) (N := some 73) #[true, true, true, true, true, true, true, true, true, true, false, false, false, false] rfl rfl (by kernel_rfl) (by decide) (fun K hK => ?_)
                refine value_ (w1 := ?_) (v := ?_) (by rfl) rfl ?_ ?_
                rotate_left 2
                · go_simp
                  constructor
                  · rfl
                  · rfl
                refine hK.out _ _ ⟨(blk_cell (blk_alloc (blk_drew HG.out) _) 1).trans rfl, FC.out _ (below_alloc hd _)⟩ (fun hHeld => ?_)
                clear hK K
                refine norm_ (a' := ?_) ?_ ?_
                rotate_left
                · show Act.put _ (some 73) _ = _
                  simp only [Act.put, List.setIfInBounds_toArray, List.set_cons_zero, List.set_cons_succ, i64_w, i32_w]
                  rfl
                refine one_ (i := 10) (N := some 74) #[true, true, true, true, true, true, true, true, true, true, true, false, false, false] rfl rfl (by kernel_rfl) (by decide) (fun K hK => ?_)
                refine Kd.R_append_step kP (w0 := wc) wc.heap.size (by rfl) (.tmp 68) (.tmp 73) 63 51 (.pointer none) 8 rfl Try.underlying63 info51 rfl (by decide) (by omega) vq XS gx [.pointer (some ⟨gx, 0, none⟩)] (fun _ => True) (fun _ => False) rfl rfl (by exact rfl) (fun _ hk => hk.elim) (fun _ _ => trivial) (Kd.R_drew HQ.out) hd (below_size hd) (by have := HXL.out; omega) ?_
                intro v6 w6 ho hb hg hat
                obtain ⟨A6, c6, e6⟩ := Kd.R_slice ho
                rw [show (XS ++ [gx]).length = XS.length + 1 from by rw [List.length_append]; rfl] at e6
                subst e6
                have HG6 := Aside0.mk (blk_grown (blk_drew HG.out) hg (Kd.R_ne (Kd.R_drew HQ.out) (blk_drew HG.out) (by decide)))
                have HV6 := Aside0.mk (Kd.R_over (Kd.R_drew HV.out) (Kd.R_drew HQ.out) (by decide) hg)
                have HQ6 := Aside0.mk ho
                have HB6 := Aside0.mk hb
                have hs6 : w6.cell? ⟨g9, 1, none⟩ = some vq := (blk_cell HG6.out 1).trans rfl
                have hf6 := blk_frozen HG6.out 1
                clear ho hb hg hat
                refine hK.out _ _ ⟨hs6, FC.out _ HB6.out⟩ (fun hHeld => ?_)
                clear hK K
                refine norm_ (a' := ?_) ?_ ?_
                rotate_left
                · show Act.put _ (some 74) _ = _
                  simp only [Act.put, List.setIfInBounds_toArray, List.set_cons_zero, List.set_cons_succ, i64_w, i32_w]
                  rfl
                refine pure_ (i := 11) (N := some 75) (v := ?_) (a' := ?_) #[true, true, true, true, true, true, true, true, true, true, true, true, false, false] rfl rfl (by kernel_rfl) (fun _ _ _ h => h) (Or.inl ⟨by rfl, ?_⟩) ?_ ?_
                rotate_left
                · intro w'
                  go_simp
                  with_reducible rfl
                rotate_left
                · simp only [Act.put, List.setIfInBounds_toArray, List.set_cons_zero, List.set_cons_succ, i64_w, i32_w]
                  rfl
                refine pure_ (i := 12) (N := some 76) (v := ?_) (a' := ?_) #[true, true, true, true, true, true, true, true, true, true, true, true, true, false] rfl rfl (by kernel_rfl) (fun _ _ _ h => h) (Or.inl ⟨by rfl, ?_⟩) ?_ ?_
                rotate_left
                · intro w'
                  go_simp
                  with_reducible rfl
                rotate_left
                · simp only [Act.put, List.setIfInBounds_toArray, List.set_cons_zero, List.set_cons_succ, i64_w, i32_w]
                  rfl
                refine last_ (i := 13) (N := none) #[true, true, true, true, true, true, true, true, true, true, true, true, true, true] rfl rfl (by kernel_rfl) (by decide) (fun K hK => ?_)
                refine skip_ (w1 := ?_) (by rfl) rfl ?_ ?_
                rotate_left
                · go_simp
                  rfl
                have HG7 := Aside0.mk (blk_put (cs' := #[.slice Ak ks.length ck, .slice A6 (XS.length + 1) c6]) HG6.out 1 (.slice A6 (XS.length + 1) c6) rfl)
                have HV7 := Aside0.mk (Kd.R_set HV6.out HG6.out (by decide) 1 (.slice A6 (XS.length + 1) c6))
                have HQ7 := Aside0.mk (Kd.R_set HQ6.out HG6.out (by decide) 1 (.slice A6 (XS.length + 1) c6))
                have HB7 := Aside0.mk (below_set (j := 1) (v := (.slice A6 (XS.length + 1) c6)) HB6.out GE9.out)
                refine hK.out _ _ ?_
                clear hK K
                refine done_ (by kernel_rfl) ?_
                clear hq9 hxq HG HV HQ HBL hd HG6 HV6 HQ6 HB6 hs6 hf6
                go_wp2
                go_roundg (qs.length - (j + 1))
                case measure => exact HME2.out
                case rel => exact ⟨j + 1, .slice A6 (XS.length + 1) c6, by first | (rw [HW2.out]; done) | rfl, hjl, Nat.le_refl _, HG7, HV7, ⟨by rw [HXS.out]; exact HQ7.out⟩, HB7⟩
              · obtain rfl : j = qs.length := Nat.le_antisymm hjn (Nat.not_lt.mp hjl)
                have hnl : ¬ ((qs.length : Int) < (qs.length : Int)) := Int.lt_irrefl _
                rw [List.take_length] at HQ
                clear hjk hjl hjn
                have hc0 := (Kd.R_reads' HVO2.out).2.1
                have hr0 : (0 : Int) ≤ (rn : Int) := Int.natCast_nonneg rn
                have hr1 : (rn : Int) ≤ (co : Int) := by have := HRN.out.1; omega
                have htl : (op.take rn).length = rn := by rw [List.length_take]; have := HRN.out.1; omega
                have CL : Aside0 (Calls Try.prog 49 #[.slice Ao rn co] wr fun e w' => ∃ v, e = .returned v ∧ (Kd.int .i64).R 3 w' wr.heap.size (fun _ => True) v (op.take rn) ∧ Below wr.heap.size wr w') := ⟨by
                  have := cloneI Ao co (op.take rn) wr (by rw [htl]; have := HRN.out.1; have := HO.out; omega) (Kd.C_take (Kd.C_below (Kd.C_below (Kd.R_reads' HVO2.out).2.2 HBc.out) HBL.out) HRN.out.1) (by rw [htl]; have := HRN.out.1; omega)
                  rw [htl] at this
                  exact this⟩
                obtain ⟨TK, hTK⟩ : ∃ TK, op.take rn = TK := ⟨_, rfl⟩
                rw [hTK] at CL htl
                have HTK := Aside0.mk hTK
                have HTL := Aside0.mk htl
                clear htl hTK
                go_wp2_with (first | (go_at_call 49; refine CL.out.mono ?_; rintro e wk ⟨vc, rfl, hok, hbk⟩; obtain ⟨Av, cv, ev⟩ := Kd.R_slice hok; subst ev; have HVC := Aside0.mk hok; have HBK := Aside0.mk hbk; clear hok hbk) | ((with_reducible refine gate_builtin (b := .append) (xs := #[.tmp 81, .tmp 83]) rfl ?_); at_builtin; refine Kd.R_append (Kd.int .i64) (w0 := wr) wr.heap.size rfl (.tmp 81) (.tmp 83) 35 3 (.int .i64 0) 8 rfl Try.underlying35 info_int rfl (by decide) (by omega) (.slice Av TK.length cv) TK (i : Int) [.int .i64 (i : Int)] (fun _ => True) (fun _ => False) rfl rfl (by exact rfl) (fun _ hk => hk.elim) (fun _ _ => trivial) HVC.out HBK.out (below_size HBK.out) (by have := HTL.out; have := HRN.out.1; have := HO.out; omega) ?_; intro v9 w9 ho hb hg hat; have HO9 := Aside0.mk ho; have HB9 := Aside0.mk hb; clear ho hb hg hat) | ((with_reducible refine gate_builtin (b := .append) (xs := #[.tmp 85, .tmp 87]) rfl ?_); at_builtin; refine Kd.R_append kP (w0 := w1) w1.heap.size rfl (.tmp 85) (.tmp 87) 63 51 (.pointer none) 8 rfl Try.underlying63 info51 rfl (by decide) (by omega) (.slice Aa gs.length ca) gs g9 [.pointer (some ⟨g9, 0, none⟩)] (fun _ => True) (fun _ => False) rfl rfl (by exact rfl) (fun _ hk => hk.elim) (fun _ _ => trivial) (Kd.R_below (Kd.R_below (Kd.R_below HVA2.out HBc.out) HBL.out) HB9.out) (below_then (below_then (below_then HB3.out (below_size HB3.out) HBc.out) (Nat.le_trans (below_size HB3.out) (below_size HBc.out)) HBL.out) (Nat.le_trans (below_size HB3.out) (Nat.le_trans (below_size HBc.out) (below_size HBL.out))) HB9.out) (Nat.le_trans (below_size HB3.out) (Nat.le_trans (below_size HBc.out) (Nat.le_trans (below_size HBL.out) (below_size HB9.out)))) (by have := HGL.out; have := HN.out; have := HLT.out; omega) ?_; intro v8 w8 ho hb hg hat; have HA8 := Aside0.mk ho; have HB8 := Aside0.mk hb; have HG8 := Aside0.mk hg; have HAT := Aside0.mk hat; clear ho hb hg hat))
                have hsW : Wn.heap.size ≤ wc.heap.size := below_size HBc.out
                have hWA : Below Wn.heap.size Wn w9 := below_then (below_then HBc.out hsW HBL.out) (Nat.le_trans hsW (below_size HBL.out)) HB9.out
                have HTA := Aside0.mk (trees_step (lf := lf) (va' := v8) (fun j hj => RepO_below (HT2.out j hj) hWA) HGL.out HLO.out.1 (fun k hk => Nat.lt_of_lt_of_le (Kd.R_lt HVA2.out k hk) hsW) (Nat.le_trans (below_size HB3.out) hsW) GE9.out (blk_below HG.out HB9.out) (Kd.R_below HV.out HB9.out) (Kd.R_below HQ.out HB9.out) HQI.out (by have := HK.out.2; omega) HG8.out HAT.out)
                have HLD2 := Aside0.mk (show loadF ns (i + 1) = some (ts ++ [mkB ts ⟨lf, ks, qs⟩], TK ++ [(i : Int)]) by
                  have h := loadF_go ns HLD.out (by rw [HND.out]; exact HSB.out)
                  rw [HND.out] at h
                  rw [← HTK.out, ← HRN.out.2]
                  exact h)
                have HO8 := Aside0.mk (Kd.R_lower (Kd.R_over HO9.out (Kd.R_below (Kd.R_below (Kd.R_below HVA2.out HBc.out) HBL.out) HB9.out) (by decide) HG8.out) (Nat.le_trans (below_size HB3.out) (Nat.le_trans hsW (below_size HBL.out))))
                clear hWA hsW HG HV HQ CL HVC HBK HO9 HB9 HG8 HAT hr0 hr1 hc0
                go_roundg (ns.length - (i + 1))
                case measure => exact HME.out
                case rel => exact ⟨i + 1, _, _, _, by first | (rw [HW.out]; done) | rfl, HLT.out, Nat.le_refl _, HLD2, ⟨by rw [List.length_append, HGL.out]; rfl⟩, HA8, HO8, HTA, HB8⟩
      · obtain rfl : i = ns.length := Nat.le_antisymm hin (Nat.not_lt.mp hlt)
        have hnl : ¬ ((ns.length : Int) < (ns.length : Int)) := Int.lt_irrefl _
        obtain ⟨Ao, co, eo⟩ := Kd.R_slice HVO.out
        subst eo
        obtain ⟨Aa, ca, ea⟩ := Kd.R_slice HVA.out
        subst ea
        have BF := Aside0.mk (show branchF ns root = if op = [root] then some (ts.getD root.toNat z47) else none by rw [HBF.out, HLD.out]; rfl)
        have hqb : wr.cell? ⟨gb, 1, none⟩ = some (.int .i64 root) := (blk_cell (blk_below BK.out HB2.out) 1).trans rfl
        have HLO := Aside0.mk (loadF_inv ns _ ts op HLD.out)
        have HBE := Aside0.mk (below_weaken HB1.out (below_size HB1.out) HB2.out)
        clear hin hkq hlt hcz
        by_cases hl1 : op.length = 1
        case neg =>
          have hne : ((op.length : Int) != 1) = true := bne_iff_ne.mpr (by omega)
          have BF2 := Aside0.mk (show branchF ns root = none by rw [BF.out, if_neg (fun h => hl1 (by rw [h]; rfl))])
          clear hl1
          go_upto_region 20 with fail
          (try simp only [Act.put, List.setIfInBounds_toArray, List.set_cons_zero, List.set_cons_succ])
          refine start_ (n := 11) (S := fun w' => w'.cell? ⟨gb, 1, none⟩ = some (.int .i64 root)) (ds := []) #[false, false, false, false, false, false, false, false, false, false, false] (by kernel_rfl) rfl rfl (hqb) (fun hHeld => ?_)
          refine pure_ (i := 0) (N := some 90) (v := ?_) (a' := ?_) #[true, false, false, false, false, false, false, false, false, false, false] rfl rfl (by kernel_rfl) (fun _ _ _ h => h) (Or.inl ⟨by rfl, ?_⟩) ?_ ?_
          rotate_left
          · intro w'
            go_simp
            with_reducible rfl
          rotate_left
          · simp only [Act.put, List.setIfInBounds_toArray, List.set_cons_zero, List.set_cons_succ, i64_w, i32_w]
            rfl
          refine pure_ (i := 1) (N := some 91) (v := ?_) (a' := ?_) #[true, true, false, false, false, false, false, false, false, false, false] rfl rfl (by kernel_rfl) (fun _ _ _ h => h) (Or.inl ⟨by rfl, ?_⟩) ?_ ?_
          rotate_left
          · intro w'
            go_simp
            with_reducible rfl
          rotate_left
          · simp only [Act.put, List.setIfInBounds_toArray, List.set_cons_zero, List.set_cons_succ, i64_w, i32_w]
            rfl
          refine pure_ (i := 2) (N := some 92) (v := ?_) (a' := ?_) #[true, true, true, false, false, false, false, false, false, false, false] rfl rfl (by kernel_rfl) (fun _ _ _ h => h) (Or.inl ⟨by rfl, ?_⟩) ?_ ?_
          rotate_left
          · intro w'
            go_simp
            with_reducible rfl
          rotate_left
          · simp only [Act.put, List.setIfInBounds_toArray, List.set_cons_zero, List.set_cons_succ, i64_w, i32_w]
            rfl
          refine pure_ (i := 3) (N := some 93) (v := ?_) (a' := ?_) #[true, true, true, true, false, false, false, false, false, false, false] rfl rfl (by kernel_rfl) (fun _ _ _ h => h) (Or.inl ⟨by rfl, ?_⟩) ?_ ?_
          rotate_left
          · intro w'
            go_simp
            with_reducible rfl
          rotate_left
          · simp only [Act.put, List.setIfInBounds_toArray, List.set_cons_zero, List.set_cons_succ, i64_w, i32_w]
            rfl
          refine pure_ (i := 4) (N := some 94) (v := undef) (a' := ?_) #[true, true, true, true, true, false, false, false, false, false, false] rfl rfl (by kernel_rfl) (fun _ _ _ h => h) (Or.inr ⟨by rfl, rfl⟩) ?_ ?_
          rotate_left
          · simp only [Act.put, List.setIfInBounds_toArray, List.set_cons_zero, List.set_cons_succ, i64_w, i32_w]
            rfl
          refine pure_ (i := 5) (N := some 95) (v := undef) (a' := ?_) #[true, true, true, true, true, true, false, false, false, false, false] rfl rfl (by kernel_rfl) (fun _ _ _ h => h) (Or.inr ⟨by rfl, rfl⟩) ?_ ?_
          rotate_left
          · simp only [Act.put, List.setIfInBounds_toArray, List.set_cons_zero, List.set_cons_succ, i64_w, i32_w]
            rfl
          refine pure_ (i := 6) (N := some 96) (v := undef) (a' := ?_) #[true, true, true, true, true, true, true, false, false, false, false] rfl rfl (by kernel_rfl) (fun _ _ _ h => h) (Or.inr ⟨by rfl, rfl⟩) ?_ ?_
          rotate_left
          · simp only [Act.put, List.setIfInBounds_toArray, List.set_cons_zero, List.set_cons_succ, i64_w, i32_w]
            rfl
          refine pure_ (i := 7) (N := some 97) (v := undef) (a' := ?_) #[true, true, true, true, true, true, true, true, false, false, false] rfl rfl (by kernel_rfl) (fun _ _ _ h => h) (Or.inr ⟨by rfl, rfl⟩) ?_ ?_
          rotate_left
          · simp only [Act.put, List.setIfInBounds_toArray, List.set_cons_zero, List.set_cons_succ, i64_w, i32_w]
            rfl
          refine pure_ (i := 8) (N := some 98) (v := undef) (a' := ?_) #[true, true, true, true, true, true, true, true, true, false, false] rfl rfl (by kernel_rfl) (fun _ _ _ h => h) (Or.inr ⟨by rfl, rfl⟩) ?_ ?_
          rotate_left
          · simp only [Act.put, List.setIfInBounds_toArray, List.set_cons_zero, List.set_cons_succ, i64_w, i32_w]
            rfl
          refine pure_ (i := 9) (N := some 99) (v := undef) (a' := ?_) #[true, true, true, true, true, true, true, true, true, true, false] rfl rfl (by kernel_rfl) (fun _ _ _ h => h) (Or.inr ⟨by rfl, rfl⟩) ?_ ?_
          rotate_left
          · simp only [Act.put, List.setIfInBounds_toArray, List.set_cons_zero, List.set_cons_succ, i64_w, i32_w]
            rfl
          refine pure_ (i := 10) (N := some 100) (v := ?_) (a' := ?_) #[true, true, true, true, true, true, true, true, true, true, true] rfl rfl (by kernel_rfl) (fun _ _ _ h => h) (Or.inl ⟨by rfl, ?_⟩) ?_ ?_
          rotate_left
          · intro w'
            go_simp
            with_reducible rfl
          rotate_left
          · simp only [Act.put, List.setIfInBounds_toArray, List.set_cons_zero, List.set_cons_succ, i64_w, i32_w]
            rfl
          refine done_ (by kernel_rfl) ?_
          go_wp2
          go_ret2
          exact ⟨⟨_, _, rfl, .inl ⟨BF2.out, rfl, rfl⟩⟩, below_drew1 HBE.out⟩
        case pos =>
          have hne : ((op.length : Int) != 1) = false := bne_eq_false_iff_eq.mpr (by omega)
          have pl : (0 : Int) < (op.length : Int) := by omega
          have pn : 0 < op.length := by omega
          obtain ⟨ado, eo2, hxo⟩ := Kd.at_int (Kd.R_reads' HVO.out).2.2 0 (by omega) pl
          cases eo2
          rw [show rd op 0 = op.getD 0 0 from rfl, show (0 : Int).toNat = 0 from rfl, Addr.add_zero'] at hxo
          obtain ⟨o0, ho0⟩ : ∃ o0, op.getD 0 0 = o0 := ⟨_, rfl⟩
          rw [ho0] at hxo
          have HOP := Aside0.mk (show op = [o0] by
            obtain ⟨y, rfl⟩ := List.length_eq_one_iff.mp hl1
            rw [← ho0]
            rfl)
          clear hl1 ho0
          by_cases hro : root = o0
          case neg =>
            have hrb : (root != o0) = true := bne_iff_ne.mpr hro
            have BF2 := Aside0.mk (show branchF ns root = none by rw [BF.out, if_neg (fun h => hro (by rw [HOP.out] at h; exact (List.cons.inj h).1.symm))])
            clear hro
            go_upto_region 20 with fail
            (try simp only [Act.put, List.setIfInBounds_toArray, List.set_cons_zero, List.set_cons_succ])
            refine start_ (n := 11) (S := fun w' => w'.cell? ⟨gb, 1, none⟩ = some (.int .i64 root) ∧ w'.cell? ado = some (.int .i64 o0)) (ds := []) #[false, false, false, false, false, false, false, false, false, false, false] (by kernel_rfl) rfl rfl ⟨hqb, hxo⟩ (fun hHeld => ?_)
            refine pure_ (i := 0) (N := some 90) (v := ?_) (a' := ?_) #[true, false, false, false, false, false, false, false, false, false, false] rfl rfl (by kernel_rfl) (fun _ _ _ h => h) (Or.inl ⟨by rfl, ?_⟩) ?_ ?_
            rotate_left
            · intro w'
              go_simp
              with_reducible rfl
            rotate_left
            · simp only [Act.put, List.setIfInBounds_toArray, List.set_cons_zero, List.set_cons_succ, i64_w, i32_w]
              rfl
            refine pure_ (i := 1) (N := some 91) (v := ?_) (a' := ?_) #[true, true, false, false, false, false, false, false, false, false, false] rfl rfl (by kernel_rfl) (fun _ _ _ h => h) (Or.inl ⟨by rfl, ?_⟩) ?_ ?_
            rotate_left
            · intro w'
              go_simp
              with_reducible rfl
            rotate_left
            · simp only [Act.put, List.setIfInBounds_toArray, List.set_cons_zero, List.set_cons_succ, i64_w, i32_w]
              rfl
            refine pure_ (i := 2) (N := some 92) (v := ?_) (a' := ?_) #[true, true, true, false, false, false, false, false, false, false, false] rfl rfl (by kernel_rfl) (fun _ _ _ h => h) (Or.inl ⟨by rfl, ?_⟩) ?_ ?_
            rotate_left
            · intro w'
              go_simp
              with_reducible rfl
            rotate_left
            · simp only [Act.put, List.setIfInBounds_toArray, List.set_cons_zero, List.set_cons_succ, i64_w, i32_w]
              rfl
            refine pure_ (i := 3) (N := some 93) (v := ?_) (a' := ?_) #[true, true, true, true, false, false, false, false, false, false, false] rfl rfl (by kernel_rfl) (fun _ _ _ h => h) (Or.inl ⟨by rfl, ?_⟩) ?_ ?_
            rotate_left
            · intro w'
              go_simp
              with_reducible rfl
            rotate_left
            · simp only [Act.put, List.setIfInBounds_toArray, List.set_cons_zero, List.set_cons_succ, i64_w, i32_w]
              rfl
            refine pure_ (i := 4) (N := some 94) (v := ?_) (a' := ?_) #[true, true, true, true, true, false, false, false, false, false, false] rfl rfl (by kernel_rfl) (fun _ _ _ h => h) (Or.inl ⟨by rfl, ?_⟩) ?_ ?_
            rotate_left
            · intro w'
              go_simp
              with_reducible rfl
            rotate_left
            · simp only [Act.put, List.setIfInBounds_toArray, List.set_cons_zero, List.set_cons_succ, i64_w, i32_w]
              rfl
            refine pure_ (i := 6) (N := some 96) (v := ?_) (a' := ?_) #[true, true, true, true, true, false, true, false, false, false, false] rfl rfl (by kernel_rfl) (fun _ _ _ h => h) (Or.inl ⟨by rfl, ?_⟩) ?_ ?_
            rotate_left
            · intro w'
              go_simp
              with_reducible rfl
            rotate_left
            · simp only [Act.put, List.setIfInBounds_toArray, List.set_cons_zero, List.set_cons_succ, i64_w, i32_w]
              rfl
            refine pure_ (i := 7) (N := some 97) (v := ?_) (a' := ?_) #[true, true, true, true, true, false, true, true, false, false, false] rfl rfl (by kernel_rfl) (fun _ _ _ h => h) (Or.inl ⟨by rfl, ?_⟩) ?_ ?_
            rotate_left
            · intro w'
              go_simp
              with_reducible rfl
            rotate_left
            · simp only [Act.put, List.setIfInBounds_toArray, List.set_cons_zero, List.set_cons_succ, i64_w, i32_w]
              rfl
            refine take_ (i := 5) (N := some 95) (v := ?_) (a' := ?_) #[true, true, true, true, true, true, true, true, false, false, false] rfl rfl (by kernel_rfl) (fun _ _ _ h => h) (Or.inl ⟨by rfl, ?_⟩) hHeld ?_ ?_
            rotate_left
            · rintro w' ⟨s0, s1⟩
              go_simp
              with_reducible rfl
            rotate_left
            · simp only [Act.put, List.setIfInBounds_toArray, List.set_cons_zero, List.set_cons_succ, i64_w, i32_w]
              rfl
            refine take_ (i := 8) (N := some 98) (v := ?_) (a' := ?_) #[true, true, true, true, true, true, true, true, true, false, false] rfl rfl (by kernel_rfl) (fun _ _ _ h => h) (Or.inl ⟨by rfl, ?_⟩) hHeld ?_ ?_
            rotate_left
            · rintro w' ⟨s0, s1⟩
              go_simp
              with_reducible rfl
            rotate_left
            · simp only [Act.put, List.setIfInBounds_toArray, List.set_cons_zero, List.set_cons_succ, i64_w, i32_w]
              rfl
            refine pure_ (i := 9) (N := some 99) (v := ?_) (a' := ?_) #[true, true, true, true, true, true, true, true, true, true, false] rfl rfl (by kernel_rfl) (fun _ _ _ h => h) (Or.inl ⟨by rfl, ?_⟩) ?_ ?_
            rotate_left
            · intro w'
              go_simp
              with_reducible rfl
            rotate_left
            · simp only [Act.put, List.setIfInBounds_toArray, List.set_cons_zero, List.set_cons_succ, i64_w, i32_w]
              rfl
            refine pure_ (i := 10) (N := some 100) (v := ?_) (a' := ?_) #[true, true, true, true, true, true, true, true, true, true, true] rfl rfl (by kernel_rfl) (fun _ _ _ h => h) (Or.inl ⟨by rfl, ?_⟩) ?_ ?_
            rotate_left
            · intro w'
              go_simp
              with_reducible rfl
            rotate_left
            · simp only [Act.put, List.setIfInBounds_toArray, List.set_cons_zero, List.set_cons_succ, i64_w, i32_w]
              rfl
            refine done_ (by kernel_rfl) ?_
            go_wp2
            go_ret2
            exact ⟨⟨_, _, rfl, .inl ⟨BF2.out, rfl, rfl⟩⟩, below_drew1 HBE.out⟩
          case pos =>
            have hrb : (root != o0) = false := bne_eq_false_iff_eq.mpr hro
            have hrk := HLO.out.2.2 root (by rw [HOP.out, hro]; exact List.mem_singleton.mpr rfl)
            obtain ⟨rn, hrn⟩ : ∃ rn : Nat, root = (rn : Int) := ⟨root.toNat, by omega⟩
            have HX := Aside0.mk (show branchF ns root = some (ts.getD rn z47) by rw [BF.out, if_pos (by rw [HOP.out, hro]), hrn, Int.toNat_natCast])
            have hki : rn < gs.length := by have := HGL.out; omega
            obtain ⟨ada, ea, hca⟩ := at_P (Kd.R_reads' HVA.out).2.2 rn hki
            cases ea
            have HRP := Aside0.mk (RepO_rep (HT.out rn (by have := HGL.out; omega)))
            obtain ⟨gx, hgx⟩ : ∃ gx, gs.getD rn 0 = gx := ⟨_, rfl⟩
            rw [hgx] at hca HRP
            replace hca : wr.cell? (ada.add rn) = some (.pointer (some ⟨gx, 0, none⟩)) := hca
            have pk0 : 0 ≤ (rn : Int) := Int.natCast_nonneg rn
            have qk0 : (rn : Int) < (gs.length : Int) := Int.ofNat_lt.mpr hki
            have HRN := Aside0.mk hrn
            clear hgx hro hrk
            rw [hrn] at hrb hqb
            clear hrn
            go_upto_region 20 with fail
            (try simp only [Act.put, List.setIfInBounds_toArray, List.set_cons_zero, List.set_cons_succ])
            refine start_ (n := 11) (S := fun w' => w'.cell? ⟨gb, 1, none⟩ = some (.int .i64 (rn : Int)) ∧ w'.cell? ado = some (.int .i64 o0)) (ds := []) #[false, false, false, false, false, false, false, false, false, false, false] (by kernel_rfl) rfl rfl ⟨hqb, hxo⟩ (fun hHeld => ?_)
            refine pure_ (i := 0) (N := some 90) (v := ?_) (a' := ?_) #[true, false, false, false, false, false, false, false, false, false, false] rfl rfl (by kernel_rfl) (fun _ _ _ h => h) (Or.inl ⟨by rfl, ?_⟩) ?_ ?_
            rotate_left
            · intro w'
              go_simp
              with_reducible rfl
            rotate_left
            · simp only [Act.put, List.setIfInBounds_toArray, List.set_cons_zero, List.set_cons_succ, i64_w, i32_w]
              rfl
            refine pure_ (i := 1) (N := some 91) (v := ?_) (a' := ?_) #[true, true, false, false, false, false, false, false, false, false, false] rfl rfl (by kernel_rfl) (fun _ _ _ h => h) (Or.inl ⟨by rfl, ?_⟩) ?_ ?_
            rotate_left
            · intro w'
              go_simp
              with_reducible rfl
            rotate_left
            · simp only [Act.put, List.setIfInBounds_toArray, List.set_cons_zero, List.set_cons_succ, i64_w, i32_w]
              rfl
            refine pure_ (i := 2) (N := some 92) (v := ?_) (a' := ?_) #[true, true, true, false, false, false, false, false, false, false, false] rfl rfl (by kernel_rfl) (fun _ _ _ h => h) (Or.inl ⟨by rfl, ?_⟩) ?_ ?_
            rotate_left
            · intro w'
              go_simp
              with_reducible rfl
            rotate_left
            · simp only [Act.put, List.setIfInBounds_toArray, List.set_cons_zero, List.set_cons_succ, i64_w, i32_w]
              rfl
            refine pure_ (i := 3) (N := some 93) (v := ?_) (a' := ?_) #[true, true, true, true, false, false, false, false, false, false, false] rfl rfl (by kernel_rfl) (fun _ _ _ h => h) (Or.inl ⟨by rfl, ?_⟩) ?_ ?_
            rotate_left
            · intro w'
              go_simp
              with_reducible rfl
            rotate_left
            · simp only [Act.put, List.setIfInBounds_toArray, List.set_cons_zero, List.set_cons_succ, i64_w, i32_w]
              rfl
            refine pure_ (i := 4) (N := some 94) (v := ?_) (a' := ?_) #[true, true, true, true, true, false, false, false, false, false, false] rfl rfl (by kernel_rfl) (fun _ _ _ h => h) (Or.inl ⟨by rfl, ?_⟩) ?_ ?_
            rotate_left
            · intro w'
              go_simp
              with_reducible rfl
            rotate_left
            · simp only [Act.put, List.setIfInBounds_toArray, List.set_cons_zero, List.set_cons_succ, i64_w, i32_w]
              rfl
            refine pure_ (i := 6) (N := some 96) (v := ?_) (a' := ?_) #[true, true, true, true, true, false, true, false, false, false, false] rfl rfl (by kernel_rfl) (fun _ _ _ h => h) (Or.inl ⟨by rfl, ?_⟩) ?_ ?_
            rotate_left
            · intro w'
              go_simp
              with_reducible rfl
            rotate_left
            · simp only [Act.put, List.setIfInBounds_toArray, List.set_cons_zero, List.set_cons_succ, i64_w, i32_w]
              rfl
            refine pure_ (i := 7) (N := some 97) (v := ?_) (a' := ?_) #[true, true, true, true, true, false, true, true, false, false, false] rfl rfl (by kernel_rfl) (fun _ _ _ h => h) (Or.inl ⟨by rfl, ?_⟩) ?_ ?_
            rotate_left
            · intro w'
              go_simp
              with_reducible rfl
            rotate_left
            · simp only [Act.put, List.setIfInBounds_toArray, List.set_cons_zero, List.set_cons_succ, i64_w, i32_w]
              rfl
            refine take_ (i := 5) (N := some 95) (v := ?_) (a' := ?_) #[true, true, true, true, true, true, true, true, false, false, false] rfl rfl (by kernel_rfl) (fun _ _ _ h => h) (Or.inl ⟨by rfl, ?_⟩) hHeld ?_ ?_
            rotate_left
            · rintro w' ⟨s0, s1⟩
              go_simp
              with_reducible rfl
            rotate_left
            · simp only [Act.put, List.setIfInBounds_toArray, List.set_cons_zero, List.set_cons_succ, i64_w, i32_w]
              rfl
            refine take_ (i := 8) (N := some 98) (v := ?_) (a' := ?_) #[true, true, true, true, true, true, true, true, true, false, false] rfl rfl (by kernel_rfl) (fun _ _ _ h => h) (Or.inl ⟨by rfl, ?_⟩) hHeld ?_ ?_
            rotate_left
            · rintro w' ⟨s0, s1⟩
              go_simp
              with_reducible rfl
            rotate_left
            · simp only [Act.put, List.setIfInBounds_toArray, List.set_cons_zero, List.set_cons_succ, i64_w, i32_w]
              rfl
            refine pure_ (i := 9) (N := some 99) (v := ?_) (a' := ?_) #[true, true, true, true, true, true, true, true, true, true, false] rfl rfl (by kernel_rfl) (fun _ _ _ h => h) (Or.inl ⟨by rfl, ?_⟩) ?_ ?_
            rotate_left
            · intro w'
              go_simp
              with_reducible rfl
            rotate_left
            · simp only [Act.put, List.setIfInBounds_toArray, List.set_cons_zero, List.set_cons_succ, i64_w, i32_w]
              rfl
            refine pure_ (i := 10) (N := some 100) (v := ?_) (a' := ?_) #[true, true, true, true, true, true, true, true, true, true, true] rfl rfl (by kernel_rfl) (fun _ _ _ h => h) (Or.inl ⟨by rfl, ?_⟩) ?_ ?_
            rotate_left
            · intro w'
              go_simp
              with_reducible rfl
            rotate_left
            · simp only [Act.put, List.setIfInBounds_toArray, List.set_cons_zero, List.set_cons_succ, i64_w, i32_w]
              rfl
            refine done_ (by kernel_rfl) ?_
            go_wp2
            go_ret2
            exact ⟨⟨_, _, rfl, .inr ⟨_, HX.out, rfl, RepB_below _ HRP.out (below_drew1 (Below.refl _ _))⟩⟩, below_drew1 HBE.out⟩

end Go.Proofs.Ytmgbfbpolmbnfaa.PFnExactKeysOf
