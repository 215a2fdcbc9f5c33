/- What this law wants beside; no condition. -/
import Derived.Test.YtmgbfbpolmbnfaaQFnExactHasKeyt6
namespace Go.Proofs.Ytmgbfbpolmbnfaa.PFnExactHasKey
open Go.RowKit Go.Proofs.YtmgbfbpolmbnfaaW.PrintWords Go.Proofs.YtmgbfbpolmbnfaaW.PrintLast Go.Proofs.YtmgbfbpolmbnfaaW.PrintMore
set_option linter.unusedVariables false
set_option linter.unusedSimpArgs false
set_option maxRecDepth 100000

/-! #### search in a node's keys -/
def atF (l : List Int) (key : Int) : Nat := (l.takeWhile (fun k => decide (k < key))).length
def hitF (l : List Int) (key : Int) : Bool := decide (atF l key < l.length ∧ l.getD (atF l key) 0 = key)
def hasF : Nat → S47 → Int → Int → Bool × Int
  | 0, _, _, _ => (false, 0)
  | n + 1, x, key, v => if hitF x.f0 key = true then (true, v) else if x.f1.length = 0 then (false, v) else hasF n (kidF x (atF x.f0 key)) key (v + 1)
theorem atF_le (key : Int) : ∀ (l : List Int), atF l key ≤ l.length
  | [] => Nat.le_refl _
  | k :: l => by
    have := atF_le key l
    unfold atF at this ⊢
    rw [List.takeWhile_cons]
    split
    · rw [List.length_cons, List.length_cons]; omega
    · exact Nat.zero_le _
theorem atF_lt (key : Int) : ∀ (l : List Int) (i : Nat), i < atF l key → l.getD i 0 < key
  | [], i, h => absurd h (Nat.not_lt_zero i)
  | k :: l, i, h => by
    unfold atF at h
    rw [List.takeWhile_cons] at h
    by_cases hk : k < key
    · rw [decide_eq_true hk, if_pos rfl, List.length_cons] at h
      cases i with
      | zero => exact hk
      | succ i => exact atF_lt key l i (by unfold atF; omega)
    · rw [decide_eq_false hk, if_neg (by decide)] at h
      exact absurd h (Nat.not_lt_zero i)
theorem atF_stop (key : Int) : ∀ (l : List Int), atF l key < l.length → ¬ l.getD (atF l key) 0 < key
  | [], h => absurd h (Nat.not_lt_zero _)
  | k :: l, h => by
    unfold atF at h ⊢
    rw [List.takeWhile_cons] at h ⊢
    by_cases hk : k < key
    · rw [decide_eq_true hk, if_pos rfl, List.length_cons, List.length_cons] at h
      rw [decide_eq_true hk, if_pos rfl, List.length_cons, List.getD_cons_succ]
      exact atF_stop key l (by unfold atF; omega)
    · rw [decide_eq_false hk, if_neg (by decide)]
      exact hk
/-- in order, nothing behind is less -/
theorem atF_rest {l : List Int} (hs : List.Pairwise (· < ·) l) (key : Int) (i : Nat) (h : atF l key ≤ i) (hi : i < l.length) : ¬ l.getD i 0 < key := by
  have h1 := atF_stop key l (by omega)
  by_cases e : i = atF l key
  · rw [e]; exact h1
  · have h2 := List.pairwise_iff_getElem.mp hs (atF l key) i (by omega) hi (by omega)
    rw [List.getD_eq_getElem?_getD, List.getElem?_eq_getElem hi, Option.getD_some]
    rw [List.getD_eq_getElem?_getD, List.getElem?_eq_getElem (show atF l key < l.length by omega), Option.getD_some] at h1
    omega
theorem atF_of (l : List Int) (key : Int) (i : Nat) (h : ∀ j, j < i → l.getD j 0 < key) (hi : i ≤ l.length) (h2 : i < l.length → ¬ l.getD i 0 < key) : i = atF l key := by
  have h3 := atF_le key l
  rcases Nat.lt_trichotomy i (atF l key) with h4 | h4 | h4
  · exact absurd (atF_lt key l i h4) (h2 (by omega))
  · exact h4
  · exact absurd (h _ h4) (atF_stop key l (by omega))
/-- a node's own keys are in order, and each kid's -/
theorem inter_parts : ∀ (ks : List Int) (ls : List (List Int)) (lo hi : Int), ls.length = ks.length + 1 → Sor lo hi (inter ks ls) → List.Pairwise (· < ·) ks ∧ ∀ i, i < ls.length → ∃ a b, Sor a b (ls.getD i [])
  | ks, ls, lo, hi, hl, h => by
    have h1 := (inter_sor ks ls lo hi hl).mp h
    refine ⟨((keys_leaf_sor ks lo hi).mpr h1.1).1, fun i hi2 => ⟨_, _, h1.2 i hi2⟩⟩
theorem node_sor {d : Nat} {r : Bool} {x : S47} {lo hi : Int} (hb : Bal (d + 1) r x) (hs : Sor lo hi (keysF (d + 1) x)) : List.Pairwise (· < ·) x.f0 ∧ ∀ i, i < x.f1.length → ∃ a b, Sor a b (keysF d (kidF x i)) := by
  rcases hb.2.2 with ⟨_, hz⟩ | ⟨_, hz, _⟩
  · rw [keysF_leaf d x hz] at hs
    exact ⟨hs.1, fun i hi2 => by omega⟩
  · rw [keysF_inter d x hz] at hs
    obtain ⟨h1, h2⟩ := inter_parts x.f0 (x.f1.map (keysF d)) lo hi (by rw [List.length_map]; exact hz) hs
    refine ⟨h1, fun i hi2 => ?_⟩
    obtain ⟨a, b, h3⟩ := h2 i (by rw [List.length_map]; exact hi2)
    rw [getD_map x.f1 (keysF d) i [] z47 hi2] at h3
    exact ⟨a, b, h3⟩
theorem at_val (l : List Int) (key : Int) (hl : l.length < 1000000) : ∀ (j i k : Nat), i + j = l.length → j < k → (∀ t, t < i → l.getD t 0 < key) → spec_l7At.l0 k l key (i : Int) = some (((atF l key : Nat) : Int), hitF l key)
  | 0, i, k, h, hk, ha => by
    obtain ⟨k, rfl⟩ : ∃ q, k = q + 1 := ⟨k - 1, by omega⟩
    have e := atF_of l key i ha (by omega) (fun h2 => by omega)
    rw [spec_l7At.l0, if_neg (by omega), hitF, ← e, decide_eq_false (by omega)]
  | j + 1, i, k, h, hk, ha => by
    obtain ⟨k, rfl⟩ : ∃ q, k = q + 1 := ⟨k - 1, by omega⟩
    rw [spec_l7At.l0, if_pos (by omega), if_pos (by omega), rd_get]
    by_cases hc : l.getD i 0 < key
    · rw [if_pos hc, show wrap64 ((i : Int) + 1) = ((i + 1 : Nat) : Int) by unfold wrap64; omega]
      exact at_val l key hl j (i + 1) k (by omega) (by omega) (fun t ht => by
        by_cases e : t = i
        · rw [e]; exact hc
        · exact ha t (by omega))
    · rw [if_neg hc]
      have e := atF_of l key i ha (by omega) (fun _ => hc)
      rw [hitF, ← e, Bool.beq_eq_decide_eq]
      congr 2
      exact decide_eq_decide.mpr ⟨fun q => ⟨by omega, q⟩, fun q => q.2⟩
theorem less_val (a b : Int) : cmp_Less_int.f a b = some (decide (a < b)) := by
  unfold cmp_Less_int.f cmp_isNaN_int.f
  rw [Option.bind_some, if_neg (by simp)]
theorem mid_val (a b : Nat) (h : a + b < 2000000) : wrap64 ((IntKind.u64.wrap (wrap64 ((a : Int) + (b : Int)))) / 2) = (((a + b) / 2 : Nat) : Int) := by
  have h1 : wrap64 ((a : Int) + (b : Int)) = ((a + b : Nat) : Int) := by unfold wrap64; omega
  have h2 : IntKind.u64.wrap ((a + b : Nat) : Int) = ((a + b : Nat) : Int) := by
    show (((a + b : Nat) : Int)) % 18446744073709551616 = _
    omega
  rw [h1, h2]
  unfold wrap64
  omega
theorem bs_val (l : List Int) (key : Int) (hl : l.length < 1000000) (hs : List.Pairwise (· < ·) l) : ∀ (k a b : Nat), a ≤ b → b ≤ l.length → b - a < k → (∀ t, t < a → l.getD t 0 < key) → (∀ t, b ≤ t → t < l.length → ¬ l.getD t 0 < key) → slices_BinarySearch_int_int.l0 k l key (l.length : Int) (a : Int) (b : Int) = some (((atF l key : Nat) : Int), hitF l key)
  | 0, a, b, _, _, hk, _, _ => by omega
  | k + 1, a, b, hab, hb, hk, h1, h2 => by
    rw [slices_BinarySearch_int_int.l0]
    by_cases hlt : a < b
    · have hm1 : (a + b) / 2 < b := by omega
      have hm2 : a ≤ (a + b) / 2 := by omega
      rw [if_pos (by omega), mid_val a b (by omega)]
      generalize (a + b) / 2 = m at hm1 hm2
      rw [if_pos (by omega), if_pos (by omega), rd_get, less_val, Option.bind_some]
      by_cases hc : l.getD m 0 < key
      · rw [decide_eq_true hc, if_pos rfl, show wrap64 ((m : Int) + 1) = ((m + 1 : Nat) : Int) by unfold wrap64; omega]
        refine bs_val l key hl hs k (m + 1) b (by omega) hb (by omega) (fun t ht => ?_) h2
        by_cases e : t = m
        · rw [e]; exact hc
        · have h3 := List.pairwise_iff_getElem.mp hs t m (by omega) (by omega) (by omega)
          rw [List.getD_eq_getElem?_getD, List.getElem?_eq_getElem (show m < l.length by omega), Option.getD_some] at hc
          rw [List.getD_eq_getElem?_getD, List.getElem?_eq_getElem (show t < l.length by omega), Option.getD_some]
          omega
      · rw [decide_eq_false hc, if_neg (by decide)]
        refine bs_val l key hl hs k a m hm2 (by omega) (by omega) h1 (fun t ht ht2 => ?_)
        by_cases e : t = m
        · rw [e]; exact hc
        · have h3 := List.pairwise_iff_getElem.mp hs m t (by omega) ht2 (by omega)
          rw [List.getD_eq_getElem?_getD, List.getElem?_eq_getElem (show m < l.length by omega), Option.getD_some] at hc
          rw [List.getD_eq_getElem?_getD, List.getElem?_eq_getElem ht2, Option.getD_some]
          omega
    · obtain rfl : a = b := by omega
      have e := atF_of l key a h1 hb (fun q => h2 a (Nat.le_refl _) q)
      rw [if_neg (by omega)]
      by_cases hlen : a < l.length
      · rw [if_pos (by omega), if_pos (by omega), if_pos (by omega), rd_get]
        by_cases hc : l.getD a 0 = key
        · rw [if_pos hc, hitF, ← e, decide_eq_true ⟨hlen, hc⟩]
        · rw [if_neg hc]
          unfold slices_isNaN_int.f
          rw [Option.bind_some, if_neg (by simp), hitF, ← e, decide_eq_false (fun q => hc q.2)]
      · rw [if_neg (by omega), hitF, ← e, decide_eq_false (fun q => hlen q.1)]
theorem at_w (l : List Int) (key : Int) (hl : l.length < 1000000) {A : Option Addr} {c : Nat} {W : World} (hr : (Kd.int .i64).C W A l.length l) (hc : l.length ≤ c) : Calls Try.prog 43 #[.slice A l.length c, .int .i64 key] W fun e w' => e = .returned (.tuple #[.int .i64 ((atF l key : Nat) : Int), .bool (hitF l key)]) ∧ Below W.heap.size W w' := by
  refine (spec_l7At.calls (l.length + 1) A c l key _ _ W hr hc (at_val l key hl l.length 0 (l.length + 1) (by omega) (by omega) (fun t ht => absurd ht (Nat.not_lt_zero t)))).mono ?_
  rintro e w' ⟨rfl, m, rfl⟩
  exact ⟨rfl, pw_below_drewN (Below.refl _ _) m⟩
theorem bs_w (l : List Int) (key : Int) (hl : l.length < 1000000) (hs : List.Pairwise (· < ·) l) {A : Option Addr} {c : Nat} {W : World} (hr : (Kd.int .i64).C W A l.length l) (hc : l.length ≤ c) : Calls Try.prog 33 #[.slice A l.length c, .int .i64 key] W fun e w' => e = .returned (.tuple #[.int .i64 ((atF l key : Nat) : Int), .bool (hitF l key)]) ∧ Below W.heap.size W w' := by
  refine (slices_BinarySearch_int_int.calls (l.length + 1) A c l key _ _ W hr hc (bs_val l key hl hs (l.length + 1) 0 l.length (Nat.zero_le _) (Nat.le_refl _) (by omega) (fun t ht => absurd ht (Nat.not_lt_zero t)) (fun t h1 h2 => by omega))).mono ?_
  rintro e w' ⟨rfl, m, rfl⟩
  exact ⟨rfl, pw_below_drewN (Below.refl _ _) m⟩
set_option maxHeartbeats 4000000 in
theorem l7has_walk {w : World} {x : S47} {A0 : Option Addr} {c0 : Nat} {A1 : Option Addr} {c1 : Nat} (hk : k47.K w x [.slice A0 x.f0.length c0, .slice A1 x.f1.length c1]) {d : Nat} {r : Bool} (hb : Bal d r x) (hd : d ≤ 20) (key : Int) : Calls Try.prog 32 #[.agg #[.slice A0 x.f0.length c0, .slice A1 x.f1.length c1], .int .i64 key] w fun e w' => e = .returned (.tuple #[.bool (hasF 20 x key 1).1, .int .i64 (hasF 20 x key 1).2]) ∧ Below w.heap.size w w' := by
  obtain ⟨RES, hRES⟩ : ∃ RES, hasF 20 x key 1 = RES := ⟨_, rfl⟩
  rw [hRES]
  have HB := Aside0.mk (Below.refl w.heap.size w)
  have HK := Aside0.mk hk
  have HRES := Aside0.mk hRES
  have HBL := Aside0.mk hb
  have HD := Aside0.mk hd
  clear hk hb hd hRES
  go_enter Try.func32, Try.ntmps32
  go_wp2_with (first | ((with_reducible refine gate_dst (N := 2) rfl ?_); go_loud (refine box_event ?hg (N := 2) ?hd (cs := #[.slice A0 x.f0.length c0, .slice A1 x.f1.length c1]) (t := 47) ?hr ?_; (case hd => rfl); (case hg => rfl); (case hr => first | (go_simp; done) | (go_simp; rfl)); intro g2 hg w1 hbox hb; have HB1 := Aside0.mk (below_step HB.out hb); have BK2 := Aside0.mk hbox; have GE2 := Aside0.mk (show w.heap.size ≤ g2 by omega); have hg2_0 : w1.cell? ⟨g2, 0, none⟩ = some (.slice A0 x.f0.length c0) := (blk_cell hbox 0).trans rfl; have fg2_0 := blk_frozen hbox 0; have hg2_1 : w1.cell? ⟨g2, 1, none⟩ = some (.slice A1 x.f1.length c1) := (blk_cell hbox 1).trans rfl; have fg2_1 := blk_frozen hbox 1; clear hb hbox hg)))
  clear hg2_0 hg2_1 fg2_0 fg2_1
  go_loopg [6] 20 (fun kq v6 w' => ∃ (m d : Nat) (rt : Bool) (y : S47) (B0 B1 : Option Addr) (b0 b1 : Nat) (vis : Int), v6 = .int .i64 vis ∧ m ≤ kq ∧ d ≤ m ∧ Aside0 (hasF m y key vis = RES) ∧ Aside0 (Bal d rt y) ∧ Aside0 (k47.K w y [.slice B0 y.f0.length b0, .slice B1 y.f1.length b1]) ∧ Aside0 (w'.heap[g2]? = some (.cells #[.slice B0 y.f0.length b0, .slice B1 y.f1.length b1] 47 (0, 0))) ∧ Aside0 (0 ≤ vis ∧ vis + (m : Int) ≤ 21) ∧ Aside0 (Below w.heap.size w w'))
  case atStart => exact ⟨20, d, r, x, A0, A1, c0, c1, 1, rfl, Nat.le_refl _, HD.out, HRES, HBL, HK, BK2, ⟨by decide⟩, HB1⟩
  case round =>
    clear HRES HBL HK BK2 HB1
    obtain ⟨m, d', rt, y, B0, B1, b0, b1, vis, rfl, hmk, hdm, HF, HBL, HK, BK2, HV, HB2⟩ := hrel
    obtain ⟨d', rfl⟩ : ∃ q, d' = q + 1 := by
      cases d' with
      | zero => exact HBL.out.elim
      | succ q => exact ⟨q, rfl⟩
    obtain ⟨m, rfl⟩ : ∃ q, m = q + 1 := ⟨m - 1, by omega⟩
    obtain ⟨l0, h0, l1, h1⟩ := K_parts HK.out
    have hf := HF.out
    rw [hasF] at hf
    have hk5 := HBL.out.2.1
    have AT : Aside0 (∀ W : World, Below w.heap.size w W → Calls Try.prog 43 #[.slice B0 y.f0.length b0, .int .i64 key] W fun e w' => e = .returned (.tuple #[.int .i64 ((atF y.f0 key : Nat) : Int), .bool (hitF y.f0 key)]) ∧ Below W.heap.size W w') := ⟨fun W h => at_w y.f0 key (by omega) (Kd.C_below h0 h) l0⟩
    have LF : Aside0 (∀ W : World, Below w.heap.size w W → Calls Try.prog 42 #[.agg #[.slice B0 y.f0.length b0, .slice B1 y.f1.length b1]] W fun e w' => e = .returned (.bool ((y.f1.length : Int) == 0)) ∧ Below W.heap.size W w') := ⟨fun W h => spec_l7Leaf.calls B0 b0 y.f0 B1 b1 y.f1 _ W (Kd.C_below h0 h) l0 (Kd.C_below h1 h) l1 rfl⟩
    obtain ⟨P, hP⟩ : ∃ P, atF y.f0 key = P := ⟨_, rfl⟩
    have hPl : P ≤ y.f0.length := by rw [← hP]; exact atF_le key y.f0
    obtain ⟨H, hH⟩ : ∃ H, hitF y.f0 key = H := ⟨_, rfl⟩
    rw [hP, hH] at AT
    rw [hP, hH] at hf
    have hg2_0 : wr.cell? ⟨g2, 0, none⟩ = some (.slice B0 y.f0.length b0) := (blk_cell BK2.out 0).trans rfl
    have hg2_1 : wr.cell? ⟨g2, 1, none⟩ = some (.slice B1 y.f1.length b1) := (blk_cell BK2.out 1).trans rfl
    clear hP hH
    cases H with
    | true =>
      rw [if_pos rfl] at hf
      have HFF := Aside0.mk hf
      clear hf hk5 hPl l0 h0 l1 h1 hmk hdm
      go_wp2_with (first | (go_at_call 43; go_loud (refine (AT.out _ HB2.out).mono ?_; rintro e w7 ⟨rfl, hb7⟩; have HB7 := Aside0.mk (below_step HB2.out hb7); clear hb7 hg2_0 hg2_1)))
      go_ret2
      rw [← HFF.out]
      exact ⟨rfl, HB7.out⟩
    | false =>
      rw [if_neg (by decide)] at hf
      by_cases hz : y.f1.length = 0
      · have hzb : ((y.f1.length : Int) == 0) = true := by rw [hz]; rfl
        rw [if_pos hz] at hf
        have HFF := Aside0.mk hf
        rw [hzb] at LF
        clear hf hk5 hPl l0 h0 l1 h1 hz hzb hmk hdm
        go_wp2_with (first | (go_at_call 43; go_loud (refine (AT.out _ HB2.out).mono ?_; rintro e w7 ⟨rfl, hb7⟩; have HB7 := Aside0.mk (below_step HB2.out hb7); have BK7 := Aside0.mk (blk_below BK2.out hb7); clear hb7 hg2_0 hg2_1; have hg2_0 : w7.cell? ⟨g2, 0, none⟩ = some (.slice B0 y.f0.length b0) := (blk_cell BK7.out 0).trans rfl; have hg2_1 : w7.cell? ⟨g2, 1, none⟩ = some (.slice B1 y.f1.length b1) := (blk_cell BK7.out 1).trans rfl)) | (go_at_call 42; go_loud (refine (LF.out _ HB7.out).mono ?_; rintro e w8 ⟨rfl, hb8⟩; have HB8 := Aside0.mk (below_step HB7.out hb8); clear hb8)))
        go_ret2
        rw [← HFF.out]
        exact ⟨rfl, HB8.out⟩
      · have hzb : ((y.f1.length : Int) == 0) = false := by
          rw [Bool.eq_false_iff]
          intro h
          have := eq_of_beq h
          omega
        rw [if_neg hz] at hf
        rw [hzb] at LF
        have hsh : y.f1.length = y.f0.length + 1 ∧ ∀ i, i < y.f1.length → Bal d' false (kidF y i) := by
          rcases HBL.out.2.2 with ⟨_, h⟩ | ⟨_, h, h2⟩
          · exact absurd h hz
          · exact ⟨h, h2⟩
        have pp : 0 ≤ (P : Int) := Int.natCast_nonneg P
        have pq : (P : Int) < (y.f1.length : Int) := by have := hsh.1; omega
        obtain ⟨adk, D0, e0, D1, e1, ek, hx0, hx1, hm0, hi0, hm1, hi1⟩ := at_T47 h1 (P : Int) pp pq
        cases ek
        have hrd : rd_T47 y.f1 (P : Int) = kidF y P := by unfold rd_T47 kidF; rw [Int.toNat_natCast]
        rw [hrd] at hx0 hx1 hm0 hi0 hm1 hi1
        rw [Int.toNat_natCast] at hx0 hx1
        have HKB := Aside0.mk (hsh.2 P (by omega))
        obtain ⟨KN, hKN⟩ : ∃ KN, kidF y P = KN := ⟨_, rfl⟩
        rw [hKN] at hx0 hx1 hm0 hi0 hm1 hi1 hf HKB
        have HKK := Aside0.mk (k47_mk w KN hm0 hi0 hm1 hi1)
        have HFF := Aside0.mk hf
        have HX : Aside0 (∀ W : World, Below w.heap.size w W → W.cell? (adk.add (P * 2)) = some (.slice D0 KN.f0.length e0) ∧ W.cell? ⟨(adk.add (P * 2)).block, (adk.add (P * 2)).off + 1, none⟩ = some (.slice D1 KN.f1.length e1)) := ⟨fun W h => ⟨(h.cell (World.block_lt_of_cell? _ _ hx0)).trans hx0, (h.cell (World.block_lt_of_cell? _ _ hx1)).trans hx1⟩⟩
        have HMD := Aside0.mk (show m < gk ∧ d' ≤ m by omega)
        have hwv : wrap64 (vis + 1) = vis + 1 := by unfold wrap64; have := HV.out; omega
        have HWV := Aside0.mk hwv
        clear hf hk5 hPl l0 h0 l1 h1 hz hzb hmk hdm hsh hrd hx0 hx1 hm0 hi0 hm1 hi1 hKN hwv
        go_wp2_with (first | (go_at_call 43; go_loud (refine (AT.out _ HB2.out).mono ?_; rintro e w7 ⟨rfl, hb7⟩; have HB7 := Aside0.mk (below_step HB2.out hb7); have BK7 := Aside0.mk (blk_below BK2.out hb7); clear hb7 hg2_0 hg2_1; have hg2_0 : w7.cell? ⟨g2, 0, none⟩ = some (.slice B0 y.f0.length b0) := (blk_cell BK7.out 0).trans rfl; have hg2_1 : w7.cell? ⟨g2, 1, none⟩ = some (.slice (some adk) y.f1.length b1) := (blk_cell BK7.out 1).trans rfl)) | (go_at_call 42; go_loud (refine (LF.out _ HB7.out).mono ?_; rintro e w8 ⟨rfl, hb8⟩; have HB8 := Aside0.mk (below_step HB7.out hb8); have BK8 := Aside0.mk (blk_below BK7.out hb8); clear hb8 hg2_0 hg2_1; have hg2_0 : w8.cell? ⟨g2, 0, none⟩ = some (.slice B0 y.f0.length b0) := (blk_cell BK8.out 0).trans rfl; have hg2_1 : w8.cell? ⟨g2, 1, none⟩ = some (.slice (some adk) y.f1.length b1) := (blk_cell BK8.out 1).trans rfl; have fg2_0 := blk_frozen BK8.out 0; have fg2_1 := blk_frozen BK8.out 1; obtain ⟨hx0, hx1⟩ := HX.out _ HB8.out)))
        have BK9 := Aside0.mk (blk_put (cs' := #[.slice D0 KN.f0.length e0, .slice D1 KN.f1.length e1]) (blk_put (cs' := #[.slice D0 KN.f0.length e0, .slice (some adk) y.f1.length b1]) BK8.out 0 (.slice D0 KN.f0.length e0) rfl) 1 (.slice D1 KN.f1.length e1) rfl)
        have HB9 := Aside0.mk (below_set (j := 1) (v := .slice D1 KN.f1.length e1) (below_set (j := 0) (v := .slice D0 KN.f0.length e0) HB8.out GE2.out) GE2.out)
        go_roundg m
        case measure => exact HMD.out.1
        case rel => exact ⟨m, d', false, KN, D0, D1, e0, e1, vis + 1, by first | (rw [HWV.out]; done) | rfl, Nat.le_refl _, HMD.out.2, HFF, HKB, HKK, BK9, ⟨by have := HV.out; omega⟩, HB9⟩
def hasV (o : Option S47) (key : Int) : Bool × Int × Bool := match o with
  | some x => ((hasF 20 x key 1).1, (hasF 20 x key 1).2, true)
  | none => (false, 0, false)
set_option maxHeartbeats 4000000 in
theorem spec_has_w (A : Option Addr) (c : Nat) (ns : List S73) (root key : Int) (w : World) (hr : Kd.C k73 w A ns.length ns) (hc : ns.length ≤ c) (hs : szT ns = true) : Calls Try.prog 20 #[.agg #[.slice A ns.length c, .int .i64 root], .int .i64 key] w fun e w' => e = .returned (.tuple #[.bool (hasV (ofF ns root) key).1, .int .i64 (hasV (ofF ns root) key).2.1, .bool (hasV (ofF ns root) key).2.2]) ∧ Below w.heap.size w w' := by
  have BR : Aside0 (∀ W : World, Below w.heap.size w W → Calls Try.prog 23 #[.agg #[.slice A ns.length c, .int .i64 root]] W fun e w' => (∃ A0 n0 c0 A1 n1 c1, e = .returned (.tuple #[.agg #[.slice A0 n0 c0, .slice A1 n1 c1], .bool (ofF ns root).isSome]) ∧ ∀ x, ofF ns root = some x → n0 = x.f0.length ∧ n1 = x.f1.length ∧ k47.K w' x [.slice A0 n0 c0, .slice A1 n1 c1]) ∧ Below W.heap.size W w') := ⟨fun W hb => l7of_w A c ns root w hr hc hs hb⟩
  have HB := Aside0.mk (Below.refl w.heap.size w)
  have hfine := ofF_fine ns root
  clear hr hc hs
  cases hg : ofF ns root with
  | none =>
    rw [hg] at BR
    clear hg hfine
    unfold hasV
    go_enter Try.func20, Try.ntmps20
    go_wp2_with (first | ((with_reducible refine gate_dst (N := 2) rfl ?_); go_loud (refine box_event ?hg (N := 2) ?hd (cs := #[.slice A ns.length c, .int .i64 root]) (t := 29) ?hr ?_; (case hd => rfl); (case hg => rfl); (case hr => first | (go_simp; done) | (go_simp; rfl)); intro gb hg w1 hbox hb; have HB1 := Aside0.mk (below_step HB.out hb); have hcz0 : w1.cell? ⟨gb, 0, none⟩ = some (.slice A ns.length c) := (blk_cell hbox 0).trans rfl; have hcz1 : w1.cell? ⟨gb, 1, none⟩ = some (.int .i64 root) := (blk_cell hbox 1).trans rfl; clear HB; clear hb hbox hg)) | (go_at_call 23; go_loud (refine (BR.out _ HB1.out).mono ?_; rintro e w2 ⟨⟨Ay0, ny0, cy0, Ay1, ny1, cy1, rfl, _⟩, hb2⟩; have HB2 := Aside0.mk (below_step HB1.out hb2); clear hb2 hcz0 hcz1)) | ((with_reducible refine gate_dst (N := 7) rfl ?_); go_loud (refine box_event ?hg (N := 7) ?hd (cs := #[.slice none 0 0, .slice none 0 0]) (t := 47) ?hr ?_; (case hd => rfl); (case hg => rfl); (case hr => first | (go_simp; done) | (go_simp; rfl)); intro g7 hg w3 hbox hb; have HB3 := Aside0.mk (below_step HB2.out hb); have HR3 := Aside0.mk hb; have BK7 := Aside0.mk hbox; have GE3 := Aside0.mk (show w.heap.size ≤ g7 by have := below_size HB2.out; omega); have GR3 := Aside0.mk (show w2.heap.size ≤ g7 by omega); have hg7_0 : w3.cell? ⟨g7, 0, none⟩ = some (.slice none 0 0) := (blk_cell hbox 0).trans rfl; have fg7_0 := blk_frozen hbox 0; have hg7_1 : w3.cell? ⟨g7, 1, none⟩ = some (.slice none 0 0) := (blk_cell hbox 1).trans rfl; have fg7_1 := blk_frozen hbox 1; clear hb hbox hg)))
    go_ret3
    exact ⟨rfl, below_set (below_set HB3.out GE3.out) GE3.out⟩
  | some x =>
    rw [hg] at BR
    obtain ⟨HV, hHV⟩ : ∃ HV, hasF 20 x key 1 = HV := ⟨_, rfl⟩
    have HW : Aside0 (∀ (W : World) (A0 : Option Addr) (c0 : Nat) (A1 : Option Addr) (c1 : Nat), k47.K W x [.slice A0 x.f0.length c0, .slice A1 x.f1.length c1] → Calls Try.prog 32 #[.agg #[.slice A0 x.f0.length c0, .slice A1 x.f1.length c1], .int .i64 key] W fun e w' => e = .returned (.tuple #[.bool HV.1, .int .i64 HV.2]) ∧ Below W.heap.size W w') := ⟨fun W A0 c0 A1 c1 hk => by
      obtain ⟨d, h1, h2, h3, h4, h5, h6, h7, _⟩ := (hfine x).mp hg
      rw [← hHV]
      exact l7has_walk hk h7 h4 key⟩
    clear hg hfine
    show Calls Try.prog 20 _ w fun e w' => e = .returned (.tuple #[.bool (hasF 20 x key 1).1, .int .i64 (hasF 20 x key 1).2, .bool true]) ∧ Below w.heap.size w w'
    rw [hHV]
    obtain ⟨hb1, hv1⟩ := HV
    clear hHV
    go_enter Try.func20, Try.ntmps20
    go_wp2_with (first | ((with_reducible refine gate_dst (N := 2) rfl ?_); go_loud (refine box_event ?hg (N := 2) ?hd (cs := #[.slice A ns.length c, .int .i64 root]) (t := 29) ?hr ?_; (case hd => rfl); (case hg => rfl); (case hr => first | (go_simp; done) | (go_simp; rfl)); intro gb hg w1 hbox hb; have HB1 := Aside0.mk (below_step HB.out hb); have hcz0 : w1.cell? ⟨gb, 0, none⟩ = some (.slice A ns.length c) := (blk_cell hbox 0).trans rfl; have hcz1 : w1.cell? ⟨gb, 1, none⟩ = some (.int .i64 root) := (blk_cell hbox 1).trans rfl; clear HB; clear hb hbox hg)) | (go_at_call 23; go_loud (refine (BR.out _ HB1.out).mono ?_; rintro e w2 ⟨⟨Ay0, ny0, cy0, Ay1, ny1, cy1, rfl, hk⟩, hb2⟩; obtain ⟨rfl, rfl, hk2⟩ := hk x rfl; have HK2 := Aside0.mk hk2; have HB2 := Aside0.mk (below_step HB1.out hb2); clear hb2 hk hk2 hcz0 hcz1)) | ((with_reducible refine gate_dst (N := 7) rfl ?_); go_loud (refine box_event ?hg (N := 7) ?hd (cs := #[.slice none 0 0, .slice none 0 0]) (t := 47) ?hr ?_; (case hd => rfl); (case hg => rfl); (case hr => first | (go_simp; done) | (go_simp; rfl)); intro g7 hg w3 hbox hb; have HB3 := Aside0.mk (below_step HB2.out hb); have HR3 := Aside0.mk hb; have BK7 := Aside0.mk hbox; have GE3 := Aside0.mk (show w.heap.size ≤ g7 by have := below_size HB2.out; omega); have GR3 := Aside0.mk (show w2.heap.size ≤ g7 by omega); have hg7_0 : w3.cell? ⟨g7, 0, none⟩ = some (.slice none 0 0) := (blk_cell hbox 0).trans rfl; have fg7_0 := blk_frozen hbox 0; have hg7_1 : w3.cell? ⟨g7, 1, none⟩ = some (.slice none 0 0) := (blk_cell hbox 1).trans rfl; have fg7_1 := blk_frozen hbox 1; clear hb hbox hg)) | ((with_reducible refine gate_store (t := 47) (p := 7) rfl ?_); go_loud (refine store_event (t := 47) (p := 7) (v := ?vo) (w1 := ((w3.setCell ⟨g7, 0, none⟩ (.slice Ay0 x.f0.length cy0)).setCell ⟨g7, 1, none⟩ (.slice Ay1 x.f1.length cy1))) ?hg ?ho ?hn ?hr ?_; (case ho => rfl); (case hg => rfl); (case hn => rfl); (case hr => first | (go_simp; done) | (go_simp; rfl)); intro w5 hw; have HB5 := Aside0.mk (show Below w.heap.size w w5 by rw [hw]; exact below_set (below_set HB3.out GE3.out) GE3.out); have C5 := Aside0.mk (show Below w2.heap.size w2 w5 by rw [hw]; exact below_set (below_set HR3.out GR3.out) GR3.out); have BK7' := Aside0.mk (show w5.heap[g7]? = some (.cells #[.slice Ay0 x.f0.length cy0, .slice Ay1 x.f1.length cy1] 47 (0, 0)) by rw [hw]; refine blk_put (cs := #[.slice Ay0 x.f0.length cy0, .slice none 0 0]) ?_ 1 _ rfl; refine blk_put (cs := #[.slice none 0 0, .slice none 0 0]) ?_ 0 _ rfl; exact BK7.out); clear hg7_0 hg7_1 fg7_0 fg7_1; have hg7_0 : w5.cell? ⟨g7, 0, none⟩ = some (.slice Ay0 x.f0.length cy0) := (blk_cell BK7'.out 0).trans rfl; have hg7_1 : w5.cell? ⟨g7, 1, none⟩ = some (.slice Ay1 x.f1.length cy1) := (blk_cell BK7'.out 1).trans rfl; clear hw)) | (go_at_call 32; go_loud (refine (HW.out _ _ _ _ _ (k47.K_below C5.out HK2.out)).mono ?_; rintro e w6 ⟨rfl, hb6⟩; have HB6 := Aside0.mk (below_step HB5.out hb6); clear hb6)))
    go_ret3
    exact ⟨rfl, HB6.out⟩
theorem RepB_up {n m : Nat} (h : n ≤ m) {w : World} {x : S47} {v : Value} (hr : RepB n w x v) : RepB m w x v := RepB_le h hr
set_option maxHeartbeats 2000000 in
theorem impl_has_w (A : Option Addr) (c : Nat) (ns : List S73) (root key : Int) (w : World) (hr : Kd.C k73 w A ns.length ns) (hc : ns.length ≤ c) (hs : szT ns = true) : Calls Try.prog 21 #[.agg #[.slice A ns.length c, .int .i64 root], .int .i64 key] w fun e w' => e = .returned (.tuple #[.bool (hasV (goodF ns root) key).1, .int .i64 (hasV (goodF ns root) key).2.1, .bool (hasV (goodF ns root) key).2.2]) ∧ Below w.heap.size w w' := by
  have BR : Aside0 (∀ W : World, Below w.heap.size w W → Calls Try.prog 25 #[.agg #[.slice A ns.length c, .int .i64 root]] W fun e w' => (∃ v, e = .returned (.tuple #[v, .bool (goodF ns root).isSome]) ∧ ∀ x, goodF ns root = some x → RepB ns.length w' x v) ∧ Below W.heap.size W w') := ⟨fun W hb => goodbr_w A c ns root w hr hc hs hb⟩
  have HB := Aside0.mk (Below.refl w.heap.size w)
  have hfine := goodF_fine ns root
  clear hr hc hs
  cases hg : goodF ns root with
  | none =>
    rw [hg] at BR
    clear hg hfine
    unfold hasV
    go_enter Try.func21, Try.ntmps21
    go_wp2_with (first | ((with_reducible refine gate_dst (N := 2) rfl ?_); go_loud (refine box_event ?hg (N := 2) ?hd (cs := #[.slice A ns.length c, .int .i64 root]) (t := 29) ?hr ?_; (case hd => rfl); (case hg => rfl); (case hr => first | (go_simp; done) | (go_simp; rfl)); intro gb hg w1 hbox hb; have HB1 := Aside0.mk (below_step HB.out hb); have hcz0 : w1.cell? ⟨gb, 0, none⟩ = some (.slice A ns.length c) := (blk_cell hbox 0).trans rfl; have hcz1 : w1.cell? ⟨gb, 1, none⟩ = some (.int .i64 root) := (blk_cell hbox 1).trans rfl; clear HB; clear hb hbox hg)) | (go_at_call 25; go_loud (refine (BR.out _ HB1.out).mono ?_; rintro e w2 ⟨⟨v, rfl, _⟩, hb2⟩; have HB2 := Aside0.mk (below_step HB1.out hb2); clear hb2 hcz0 hcz1)))
    go_ret3
    exact ⟨rfl, HB2.out⟩
  | some x =>
    rw [hg] at BR
    obtain ⟨d, hd20, hbal, hsor⟩ : ∃ d, d ≤ 20 ∧ Bal d true x ∧ Sor (-1) 1000001 (keysF d x) := by
      obtain ⟨d, h1, h2, h3, h4, h5, h6, h7, h8, h9, h10⟩ := (hfine x).mp hg
      exact ⟨d, h4, h7, h9⟩
    have HBL := Aside0.mk hbal
    have HD := Aside0.mk hd20
    have HSO := Aside0.mk hsor
    obtain ⟨RES, hRES⟩ : ∃ RES, hasF 20 x key 1 = RES := ⟨_, rfl⟩
    have HRES := Aside0.mk hRES
    clear hg hfine hbal hd20 hsor
    show Calls Try.prog 21 _ w fun e w' => e = .returned (.tuple #[.bool (hasF 20 x key 1).1, .int .i64 (hasF 20 x key 1).2, .bool true]) ∧ Below w.heap.size w w'
    rw [hRES]
    clear hRES
    go_enter Try.func21, Try.ntmps21
    go_wp2_with (first | ((with_reducible refine gate_dst (N := 2) rfl ?_); go_loud (refine box_event ?hg (N := 2) ?hd (cs := #[.slice A ns.length c, .int .i64 root]) (t := 29) ?hr ?_; (case hd => rfl); (case hg => rfl); (case hr => first | (go_simp; done) | (go_simp; rfl)); intro gb hg w1 hbox hb; have HB1 := Aside0.mk (below_step HB.out hb); have hcz0 : w1.cell? ⟨gb, 0, none⟩ = some (.slice A ns.length c) := (blk_cell hbox 0).trans rfl; have hcz1 : w1.cell? ⟨gb, 1, none⟩ = some (.int .i64 root) := (blk_cell hbox 1).trans rfl; clear HB; clear hb hbox hg)) | (go_at_call 25; go_loud (refine (BR.out _ HB1.out).mono ?_; rintro e w2 ⟨⟨v, rfl, hv⟩, hb2⟩; have hv2 := hv x rfl; obtain ⟨gv, rfl⟩ := RepB_ptr hv2; have HR2 := Aside0.mk hv2; have HB2 := Aside0.mk (below_step HB1.out hb2); clear hb2 hv hv2 hcz0 hcz1)))
    go_loopg [7, 9] 20 (fun kq v7 v9 w' => ∃ (m d : Nat) (rt : Bool) (y : S47) (gv : Nat) (vis lo hi : Int), v7 = .pointer (some ⟨gv, 0, none⟩) ∧ v9 = .int .i64 vis ∧ m ≤ kq ∧ d ≤ m ∧ Aside0 (hasF m y key vis = RES) ∧ Aside0 (Bal d rt y) ∧ Aside0 (Sor lo hi (keysF d y)) ∧ Aside0 (RepB ns.length w' y (.pointer (some ⟨gv, 0, none⟩))) ∧ Aside0 (0 ≤ vis ∧ vis + (m : Int) ≤ 21) ∧ Aside0 (Below w.heap.size w w'))
    case atStart => exact ⟨20, d, true, x, gv, 1, -1, 1000001, rfl, rfl, Nat.le_refl _, HD.out, HRES, HBL, HSO, HR2, ⟨by decide⟩, HB2⟩
    case round =>
      clear HRES HBL HSO HR2 HB2
      obtain ⟨m, d', rt, y, gv, vis, lo, hi, rfl, rfl, hmk, hdm, HF, HBL, HSO, HRP, HV, HB2⟩ := hrel
      obtain ⟨d', rfl⟩ : ∃ q, d' = q + 1 := by
        cases d' with
        | zero => exact HBL.out.elim
        | succ q => exact ⟨q, rfl⟩
      obtain ⟨m, rfl⟩ : ∃ q, m = q + 1 := ⟨m - 1, by omega⟩
      have hf := HF.out
      rw [hasF] at hf
      have hk5 := HBL.out.2.1
      have hns := node_sor HBL.out HSO.out
      have LEAF : Aside0 (∀ W : World, Below wr.heap.size wr W → Calls Try.prog 34 #[.pointer (some ⟨gv, 0, none⟩)] W fun e w' => e = .returned (.bool (decide (y.f1.length = 0))) ∧ Below W.heap.size W w') := ⟨fun W hb => leaf_walk (RepB_below _ HRP.out hb)⟩
      obtain ⟨g, B0, b0, B1, b1, n', hn', ev, hgc, l0, h0, l1, h1⟩ : ∃ g B0 b0 B1 b1 n', n' + 1 = ns.length ∧ (Value.pointer (some ⟨gv, 0, none⟩) : Value) = .pointer (some ⟨g, 0, none⟩) ∧ wr.heap[g]? = some (.cells #[.slice B0 y.f0.length b0, .slice B1 y.f1.length b1] 65 (0, 0)) ∧ y.f0.length ≤ b0 ∧ (Kd.int .i64).C wr B0 y.f0.length y.f0 ∧ y.f1.length ≤ b1 ∧ KidsB (RepB n') wr B1 y.f1 := by
        have h := HRP.out
        cases hnl : ns.length with
        | zero => rw [hnl] at h; exact h.elim
        | succ n' =>
          rw [hnl] at h
          obtain ⟨g, B0, b0, B1, b1, e, h1, h2, h3, h4, h5⟩ := h
          exact ⟨g, B0, b0, B1, b1, n', rfl, e, h1, h2, h3, h4, h5⟩
      obtain rfl : gv = g := by injection ev with ev; injection ev with ev; injection ev
      have BS : Aside0 (∀ W : World, Below wr.heap.size wr W → Calls Try.prog 33 #[.slice B0 y.f0.length b0, .int .i64 key] W fun e w' => e = .returned (.tuple #[.int .i64 ((atF y.f0 key : Nat) : Int), .bool (hitF y.f0 key)]) ∧ Below W.heap.size W w') := ⟨fun W h => bs_w y.f0 key (by omega) hns.1 (Kd.C_below h0 h) l0⟩
      obtain ⟨P, hP⟩ : ∃ P, atF y.f0 key = P := ⟨_, rfl⟩
      have hPl : P ≤ y.f0.length := by rw [← hP]; exact atF_le key y.f0
      obtain ⟨H, hH⟩ : ∃ H, hitF y.f0 key = H := ⟨_, rfl⟩
      rw [hP, hH] at BS
      rw [hP, hH] at hf
      have HGC := Aside0.mk hgc
      have HRR : Aside0 (Below wr.heap.size wr wr) := ⟨Below.refl _ _⟩
      have hq0 : wr.cell? ⟨gv, 0, none⟩ = some (.slice B0 y.f0.length b0) := (blk_cell hgc 0).trans rfl
      clear hP hH ev hgc
      cases H with
      | true =>
        rw [if_pos rfl] at hf
        have HFF := Aside0.mk hf
        clear hf hk5 hPl l0 h0 l1 h1 hmk hdm hns hn'
        go_wp2_with (first | (go_at_call 33; go_loud (refine (BS.out _ HRR.out).mono ?_; rintro e w7 ⟨rfl, hb7⟩; have HB7 := Aside0.mk (below_step HB2.out hb7); clear hb7 hq0)))
        go_ret3
        rw [← HFF.out]
        exact ⟨rfl, HB7.out⟩
      | false =>
        rw [if_neg (by decide)] at hf
        by_cases hz : y.f1.length = 0
        · rw [if_pos hz] at hf
          rw [decide_eq_true hz] at LEAF
          have HFF := Aside0.mk hf
          clear hf hk5 hPl l0 h0 l1 h1 hmk hdm hns hn' hz
          go_wp2_with (first | (go_at_call 33; go_loud (refine (BS.out _ HRR.out).mono ?_; rintro e w7 ⟨rfl, hb7⟩; have HB7 := Aside0.mk (below_step HB2.out hb7); have HR7 := Aside0.mk hb7; clear hb7 hq0)) | (go_at_call 34; go_loud (refine (LEAF.out _ HR7.out).mono ?_; rintro e w8 ⟨rfl, hb8⟩; have HB8 := Aside0.mk (below_step HB7.out hb8); clear hb8)))
          go_ret3
          rw [← HFF.out]
          exact ⟨rfl, HB8.out⟩
        · rw [if_neg hz] at hf
          rw [decide_eq_false hz] at LEAF
          have hsh : y.f1.length = y.f0.length + 1 ∧ ∀ i, i < y.f1.length → Bal d' false (kidF y i) := by
            rcases HBL.out.2.2 with ⟨_, h⟩ | ⟨_, h, h2⟩
            · exact absurd h hz
            · exact ⟨h, h2⟩
          have hPk : P < y.f1.length := by have := hsh.1; omega
          have pp : 0 ≤ (P : Int) := Int.natCast_nonneg P
          have pq : (P : Int) < (y.f1.length : Int) := Int.ofNat_lt.mpr hPk
          obtain ⟨adk, ek, hkk⟩ := h1.2 (by omega)
          cases ek
          obtain ⟨vk, hvk, hrk⟩ := hkk P hPk
          rw [← kidF_at hPk] at hrk
          obtain ⟨gk2, rfl⟩ := RepB_ptr hrk
          have HKR := Aside0.mk (show RepB ns.length wr (kidF y P) (.pointer (some ⟨gk2, 0, none⟩)) from RepB_up (by omega) hrk)
          have HKB := Aside0.mk (hsh.2 P hPk)
          obtain ⟨slo, shi, hks⟩ := hns.2 P hPk
          have HKS := Aside0.mk hks
          have HFF := Aside0.mk hf
          have HX := Aside0.mk hvk
          have HMD := Aside0.mk (show m < gk ∧ d' ≤ m by omega)
          have HWV := Aside0.mk (show wrap64 (vis + 1) = vis + 1 by unfold wrap64; have := HV.out; omega)
          clear hf hk5 hPl l0 h0 l1 h1 hz hmk hdm hsh hPk hkk hvk hrk hks hns hn'
          go_wp2_with (first | (go_at_call 33; go_loud (refine (BS.out _ HRR.out).mono ?_; rintro e w7 ⟨rfl, hb7⟩; have HB7 := Aside0.mk (below_step HB2.out hb7); have HR7 := Aside0.mk hb7; clear hb7 hq0)) | (go_at_call 34; go_loud (refine (LEAF.out _ HR7.out).mono ?_; rintro e w8 ⟨rfl, hb8⟩; have HB8 := Aside0.mk (below_step HB7.out hb8); have HR8 := Aside0.mk (below_step HR7.out hb8); have hq1 : w8.cell? ⟨gv, 1, none⟩ = some (.slice (some adk) y.f1.length b1) := (blk_cell (blk_below HGC.out HR8.out) 1).trans rfl; have hq2 : w8.cell? (adk.add P) = some (.pointer (some ⟨gk2, 0, none⟩)) := (HR8.out.cell (World.block_lt_of_cell? _ _ HX.out)).trans HX.out; clear hb8)))
          go_roundg m
          case measure => exact HMD.out.1
          case rel => exact ⟨m, d', false, _, gk2, vis + 1, slo, shi, rfl, by first | (rw [HWV.out]; done) | rfl, Nat.le_refl _, HMD.out.2, HFF, HKB, HKS, ⟨RepB_below _ HKR.out HR8.out⟩, ⟨by have := HV.out; omega⟩, HB8⟩

end Go.Proofs.Ytmgbfbpolmbnfaa.PFnExactHasKey
