/- The reference's l7Of; GoodTree of both; no condition. -/
import Derived.Test.YtmgbfbpolmbnfaaQFnExactKeysOft5
namespace Go.Proofs.Ytmgbfbpolmbnfaa.PFnExactKeysOf
open Go.RowKit Go.Proofs.YtmgbfbpolmbnfaaW.PrintWords Go.Proofs.YtmgbfbpolmbnfaaW.PrintLast Go.Proofs.YtmgbfbpolmbnfaaW.PrintMore
set_option linter.unusedVariables false
set_option linter.unusedSimpArgs false
set_option maxRecDepth 100000

/-! #### l7Of -/
theorem deep_l0 (m : Nat) (x : S47) (hl : x.f1.length ≤ 6) (hb : ∀ i, i < x.f1.length → deepF m (kidF x i) false ≤ 1000) (hf : ∀ i, i < x.f1.length → ∀ k, 10 * m ≤ k → spec_l7Deep.f k (kidF x i).f0 (kidF x i).f1 false = some ((deepF m (kidF x i) false : Nat) : Int)) :
    ∀ (j i k : Nat), i + j = x.f1.length → 10 * m + j + 1 ≤ k → (∀ t, t < i → deepF m (kidF x t) false = deepF m (kidF x 0) false) → (0 < i → deepF m (kidF x 0) false ≠ 0) →
    spec_l7Deep.l0 k (if i = 0 then 0 else ((deepF m (kidF x 0) false : Nat) : Int)) x.f1 (x.f1.length : Int) (i : Int) = some (((if x.f1.length = 0 then 1 else if deepF m (kidF x 0) false ≠ 0 ∧ ∀ i, i < x.f1.length → deepF m (kidF x i) false = deepF m (kidF x 0) false then deepF m (kidF x 0) false + 1 else 0) : Nat) : Int)
  | 0, i, k, h, hk, ha, hne => by
    obtain ⟨k, rfl⟩ : ∃ q, k = q + 1 := ⟨k - 1, by omega⟩
    obtain rfl : i = x.f1.length := by omega
    rw [spec_l7Deep.l0, if_neg (Int.lt_irrefl _)]
    by_cases hz : x.f1.length = 0
    · rw [if_pos hz, if_pos hz]
      congr 1
      unfold wrap64
      omega
    · rw [if_neg hz, if_neg hz, if_pos ⟨hne (by omega), ha⟩]
      have := hb 0 (by omega)
      congr 1
      unfold wrap64
      omega
  | j + 1, i, k, h, hk, ha, hne => by
    obtain ⟨k, rfl⟩ : ∃ q, k = q + 1 := ⟨k - 1, by omega⟩
    have hi : i < x.f1.length := by omega
    have hrd : rd_T47 x.f1 (i : Int) = kidF x i := by unfold rd_T47 kidF; rw [Int.toNat_natCast]
    have hw : wrap64 ((i : Int) + 1) = ((i + 1 : Nat) : Int) := by unfold wrap64; omega
    rw [spec_l7Deep.l0, if_pos (Int.ofNat_lt.mpr hi), if_pos (Int.natCast_nonneg i), if_pos (Int.ofNat_lt.mpr hi), hrd, hf i hi k (by omega), Option.bind_some, hw]
    have hz : x.f1.length ≠ 0 := by omega
    by_cases hd : deepF m (kidF x i) false = 0
    · rw [if_pos (by rw [hd]; rfl), if_neg hz, if_neg]
      · rfl
      · rintro ⟨h1, h2⟩
        have := h2 i hi
        omega
    · rw [if_neg (by omega)]
      by_cases h0 : i = 0
      · subst h0
        rw [if_neg (by decide)]
        have ih := deep_l0 m x hl hb hf j 1 k (by omega) (by omega) (fun t ht => by rw [show t = 0 by omega]) (fun _ => hd)
        rw [if_neg (by decide)] at ih
        exact ih
      · rw [if_pos (by omega)]
        by_cases he : deepF m (kidF x i) false = deepF m (kidF x 0) false
        · rw [if_pos (by rw [if_neg h0, he]), he]
          have ih := deep_l0 m x hl hb hf j (i + 1) k (by omega) (by omega) (fun t ht => by
            by_cases h : t < i
            · exact ha t h
            · rw [show t = i by omega, he]) (fun _ => hne (by omega))
          rw [if_neg (by omega)] at ih
          exact ih
        · rw [if_neg (by rw [if_neg h0]; omega), if_neg hz, if_neg]
          · rfl
          · rintro ⟨h1, h2⟩
            exact he (h2 i hi)
theorem deepF_le : ∀ (m : Nat) (x : S47) (root : Bool), deepF m x root ≤ m
  | 0, _, _ => Nat.le_refl _
  | m + 1, x, root => by
    rw [deepF]
    have := deepF_le m (kidF x 0) false
    split
    · split
      · omega
      · split <;> omega
    · omega
theorem deep_val : ∀ (m : Nat) (x : S47) (root : Bool) (k : Nat), m ≤ 1000 → ShapeF m x → 10 * m ≤ k → spec_l7Deep.f k x.f0 x.f1 root = some ((deepF m x root : Nat) : Int)
  | 0, _, _, _, _, h, _ => h.elim
  | m + 1, x, root, k, hm, hs, hk => by
    obtain ⟨k, rfl⟩ : ∃ q, k = q + 2 := ⟨k - 2, by omega⟩
    have hj : ∀ lst : Int, lst = leastT x root → spec_l7Deep.j0 (k + 1) lst x.f0 x.f1 = some ((deepF (m + 1) x root : Nat) : Int) := by
      rintro lst rfl
      rw [spec_l7Deep.j0, deepF]
      have hin : spec_l1In.f (x.f0.length : Int) (leastT x root) 5 = some (decide (leastT x root ≤ (x.f0.length : Int)) && decide ((x.f0.length : Int) ≤ 5)) := by
        unfold spec_l1In.f
        by_cases h : leastT x root ≤ (x.f0.length : Int)
        · rw [if_pos h, decide_eq_true h, Bool.true_and]
        · rw [if_neg h, decide_eq_false h, Bool.false_and]
      rw [hin, Option.bind_some]
      by_cases hc : leastT x root ≤ (x.f0.length : Int) ∧ x.f0.length ≤ 5
      · rw [if_pos (by rw [decide_eq_true hc.1, decide_eq_true (by omega)]; rfl), if_pos hc]
        have hl : x.f1.length ≤ 6 := by
          rcases hs with h | ⟨h, _⟩ <;> omega
        have hsk : ∀ i, i < x.f1.length → ShapeF m (kidF x i) := fun i hi => by
          rcases hs with h | ⟨_, h⟩
          · omega
          · exact h i hi
        have := deep_l0 m x hl (fun i _ => Nat.le_trans (deepF_le m _ false) (by omega)) (fun i hi k hk => deep_val m _ false k (by omega) (hsk i hi) hk) x.f1.length 0 k (by omega) (by omega) (fun t ht => absurd ht (Nat.not_lt_zero t)) (fun h => absurd h (Nat.lt_irrefl 0))
        rw [if_pos rfl] at this
        exact this
      · rw [if_neg hc, if_neg]
        · rfl
        · rw [Bool.and_eq_true, decide_eq_true_iff, decide_eq_true_iff]
          omega
    rw [spec_l7Deep.f]
    cases root with
    | false =>
      rw [if_neg (by decide)]
      exact hj 2 rfl
    | true =>
      rw [if_pos rfl]
      unfold spec_l7Leaf.f
      rw [Option.bind_some]
      by_cases hz : x.f1.length = 0
      · rw [if_pos (by rw [hz]; rfl)]
        exact hj 0 (by rw [leastT, if_pos rfl, if_pos hz])
      · rw [if_neg (by rw [beq_iff_eq]; omega)]
        exact hj 1 (by rw [leastT, if_pos rfl, if_neg hz])
theorem FoS_cnt5 {P : Nat → Nat → S47 → Prop} {g : S47 → Nat} : ∀ (qs : List Int) (a e : Nat) (xs : List S47), (∀ a k y, y ∈ xs → P a k y → a ≤ k ∧ g y + 5 * a ≤ 5 * (k + 1)) → FoS P a qs e xs → a ≤ e ∧ (xs.map g).sum + 5 * a ≤ 5 * e
  | [], a, e, xs, _, h => by
    obtain ⟨rfl, rfl⟩ := h
    simp
  | q :: qs, a, e, xs, hg, h => by
    obtain ⟨k, y, ys, _, rfl, hp, hf⟩ := h
    have h1 := hg a k y List.mem_cons_self hp
    have h2 := FoS_cnt5 qs (k + 1) e ys (fun a k y hy => hg a k y (List.mem_cons_of_mem _ hy)) hf
    rw [List.map_cons, List.sum_cons]
    omega
theorem keys_le (ns : List S73) : ∀ (d m n a k : Nat) (x : S47) (root : Bool), TrS ns m a k x → Bal d root x → d ≤ n → (keysF n x).length + 5 * a ≤ 5 * (k + 1)
  | 0, _, _, _, _, _, _, _, h, _ => h.elim
  | d + 1, 0, _, _, _, _, _, h, _, _ => h.elim
  | d + 1, m + 1, n, a, k, x, root, ht, h, hn => by
    obtain ⟨n, rfl⟩ : ∃ k, n = k + 1 := ⟨n - 1, by omega⟩
    have hl := h.2.1
    have hle := TrS_le ns _ _ _ _ ht
    obtain ⟨_, _, _, hf⟩ := ht
    rcases h.2.2 with ⟨h0, hz⟩ | ⟨h0, hz, hk⟩
    · rw [keysF_leaf n x hz]
      omega
    · rw [keysF_sum n x hz]
      have h1 := FoS_cnt5 (g := fun y => (keysF n y).length) _ _ _ _ (fun a k y hy hp => ⟨TrS_le ns m a k y hp, by
        obtain ⟨i, hi, rfl⟩ := mem_kid hy
        exact keys_le ns d m n a k _ false hp (hk i hi) (by omega)⟩) hf
      omega
theorem K_parts {w : World} {x : S47} {A0 : Option Addr} {c0 : Nat} {A1 : Option Addr} {c1 : Nat} (h : k47.K w x [.slice A0 x.f0.length c0, .slice A1 x.f1.length c1]) : x.f0.length ≤ c0 ∧ (Kd.int .i64).C w A0 x.f0.length x.f0 ∧ x.f1.length ≤ c1 ∧ k47.C w A1 x.f1.length x.f1 := by
  obtain ⟨B0, d0, B1, d1, e, h1, h2, h3, h4⟩ := k47_open h
  simp only [List.cons.injEq, Value.slice.injEq, and_true, true_and] at e
  obtain ⟨⟨rfl, rfl⟩, rfl, rfl⟩ := e
  exact ⟨h1, h2, h3, h4⟩
theorem deep_w (m : Nat) {x : S47} (hm : m ≤ 1000) (hs : ShapeF m x) {A0 : Option Addr} {c0 : Nat} {A1 : Option Addr} {c1 : Nat} {W : World} (hk : k47.K W x [.slice A0 x.f0.length c0, .slice A1 x.f1.length c1]) : Calls Try.prog 27 #[.agg #[.slice A0 x.f0.length c0, .slice A1 x.f1.length c1], .bool true] W fun e w' => e = .returned (.int .i64 ((deepF m x true : Nat) : Int)) ∧ Below W.heap.size W w' := by
  obtain ⟨h1, h2, h3, h4⟩ := K_parts hk
  exact spec_l7Deep.calls (10 * m) A0 c0 x.f0 A1 c1 x.f1 true _ W h2 h1 h4 h3 (deep_val m x true _ hm hs (Nat.le_refl _))
theorem keys_w (m : Nat) {x : S47} (hs : ShapeF m x) (hl : (keysF m x).length < 1099511627776) {A0 : Option Addr} {c0 : Nat} {A1 : Option Addr} {c1 : Nat} {W : World} (hk : k47.K W x [.slice A0 x.f0.length c0, .slice A1 x.f1.length c1]) : Calls Try.prog 29 #[.agg #[.slice A0 x.f0.length c0, .slice A1 x.f1.length c1]] W fun e w' => KeysOut (keysF m x) e w' ∧ Below W.heap.size W w' := by
  obtain ⟨h1, h2, h3, h4⟩ := K_parts hk
  exact l7keys_walk m h2 h1 h4 h3 hs hl
def OfOut (r : Option S47) (e : Ending) (w' : World) : Prop := ∃ A0 n0 c0 A1 n1 c1 b, e = .returned (.tuple #[.agg #[.slice A0 n0 c0, .slice A1 n1 c1], .bool b]) ∧ ((r = none ∧ b = false) ∨ ∃ x, r = some x ∧ b = true ∧ n0 = x.f0.length ∧ n1 = x.f1.length ∧ k47.K w' x [.slice A0 n0 c0, .slice A1 n1 c1])
set_option maxHeartbeats 4000000 in
theorem l7of_walk (A : Option Addr) (c : Nat) (ns : List S73) (root : Int) (w : World) (hr : Kd.C k73 w A ns.length ns) (hc : ns.length ≤ c) (hn : ns.length ≤ 1048576) (hsz : ∀ i, (nodeAt ns i).f1.length < 1099511627776 ∧ (nodeAt ns i).f2.length < 1099511627776) : Calls Try.prog 23 #[.agg #[.slice A ns.length c, .int .i64 root]] w fun e w' => OfOut (ofF ns root) e w' ∧ Below w.heap.size w w' := by
  have RD : Aside0 (∀ w2 : World, Below w.heap.size w w2 → Calls Try.prog 36 #[.agg #[.slice A ns.length c, .int .i64 root], .int .i64 root, .int .i64 1] w2 fun e w' => ReadOut (readF ns 20 root) (fun q => q < w.heap.size ∨ w2.heap.size ≤ q) e w' ∧ Below w2.heap.size w2 w') := ⟨fun w2 hb => l7read_walk w A c ns root hr hc (by omega) hsz 20 root (Nat.le_refl _) hb (below_size hb)⟩
  have HB := Aside0.mk (Below.refl w.heap.size w)
  have hwl : wrap64 ((ns.length : Int) - 1) = (ns.length : Int) - 1 := by unfold wrap64; omega
  have HN := Aside0.mk hn
  clear hr hc hn hsz
  by_cases hroot : root = (ns.length : Int) - 1
  case neg =>
    have hne : (root != (ns.length : Int) - 1) = true := bne_iff_ne.mpr hroot
    have HF := Aside0.mk (show ofF ns root = none by rw [ofF, if_neg hroot])
    clear hroot RD
    go_enter Try.func23, Try.ntmps23
    go_wp2_with (first | ((with_reducible refine gate_dst (N := 1) rfl ?_); go_loud (refine box_event ?hg (N := 1) ?hd (cs := #[.slice A ns.length c, .int .i64 root]) (t := 29) ?hr ?_; (case hd => rfl); (case hg => rfl); (case hr => first | (go_simp; done) | (go_simp; rfl)); intro g1 hg w1 hbox hb; have HB1 := Aside0.mk (below_step HB.out hb); have BK1 := Aside0.mk hbox; clear hb hbox hg)) | ((with_reducible refine gate_dst (N := 2) rfl ?_); go_loud (refine box_event ?hg (N := 2) ?hd (cs := #[.slice none 0 0, .slice none 0 0]) (t := 47) ?hr ?_; (case hd => rfl); (case hg => rfl); (case hr => first | (go_simp; done) | (go_simp; rfl)); intro g2 hg w2 hbox hb; have HB2 := Aside0.mk (below_step HB1.out hb); have BK2 := Aside0.mk hbox; have GE2 := Aside0.mk (show w.heap.size ≤ g2 by have := below_size HB1.out; omega); have LT2 := Aside0.mk (blk_lt hbox); have BK1' := Aside0.mk (blk_below BK1.out hb); have h1a : w2.cell? ⟨g1, 0, none⟩ = some (.slice A ns.length c) := (blk_cell BK1'.out 0).trans rfl; have h1b : w2.cell? ⟨g1, 1, none⟩ = some (.int .i64 root) := (blk_cell BK1'.out 1).trans rfl; have hg2_0 : w2.cell? ⟨g2, 0, none⟩ = some (.slice none 0 0) := (blk_cell hbox 0).trans rfl; have fg2_0 := blk_frozen hbox 0; have hg2_1 : w2.cell? ⟨g2, 1, none⟩ = some (.slice none 0 0) := (blk_cell hbox 1).trans rfl; have fg2_1 := blk_frozen hbox 1; have hne12 : g1 ≠ g2 := (by have := blk_lt BK1.out; omega); clear hb hbox hg)))
    refine bodyPost_ret (results_ct rfl _ _ g2 47 #[.slice none 0 0, .slice none 0 0] (0, 0) _ rfl (by refine blk_put (cs := #[.slice none 0 0, .slice none 0 0]) ?_ 1 _ rfl; refine blk_put (cs := #[.slice none 0 0, .slice none 0 0]) ?_ 0 _ rfl; exact BK2.out) Try.underlying47 rfl (by kernel_rfl)) rfl ?_
    exact ⟨⟨_, _, _, _, _, _, _, rfl, .inl ⟨HF.out, rfl⟩⟩, below_set (below_set HB2.out GE2.out) GE2.out⟩
  case pos =>
    have hne : (root != (ns.length : Int) - 1) = false := bne_eq_false_iff_eq.mpr hroot
    have HOF := Aside0.mk (show ofF ns root = (readF ns 20 root).bind fun p => if p.2 = 0 ∧ deepF 20 p.1 true ≠ 0 ∧ sorB (keysF 20 p.1) = true ∧ (keysF 20 p.1).length ≤ 200 then some p.1 else none by rw [ofF, if_pos hroot])
    clear hroot
    have hsh0 := readF_tr ns 20 root
    obtain ⟨R, hR⟩ : ∃ R, readF ns 20 root = R := ⟨_, rfl⟩
    rw [hR] at RD HOF hsh0
    clear hR
    cases R with
    | none =>
      have HF := Aside0.mk (show ofF ns root = none by rw [HOF.out]; rfl)
      clear HOF hsh0
      go_enter Try.func23, Try.ntmps23
      go_wp2_with (first | ((with_reducible refine gate_dst (N := 1) rfl ?_); go_loud (refine box_event ?hg (N := 1) ?hd (cs := #[.slice A ns.length c, .int .i64 root]) (t := 29) ?hr ?_; (case hd => rfl); (case hg => rfl); (case hr => first | (go_simp; done) | (go_simp; rfl)); intro g1 hg w1 hbox hb; have HB1 := Aside0.mk (below_step HB.out hb); have BK1 := Aside0.mk hbox; clear hb hbox hg)) | ((with_reducible refine gate_dst (N := 2) rfl ?_); go_loud (refine box_event ?hg (N := 2) ?hd (cs := #[.slice none 0 0, .slice none 0 0]) (t := 47) ?hr ?_; (case hd => rfl); (case hg => rfl); (case hr => first | (go_simp; done) | (go_simp; rfl)); intro g2 hg w2 hbox hb; have HB2 := Aside0.mk (below_step HB1.out hb); have BK2 := Aside0.mk hbox; have GE2 := Aside0.mk (show w.heap.size ≤ g2 by have := below_size HB1.out; omega); have LT2 := Aside0.mk (blk_lt hbox); have BK1' := Aside0.mk (blk_below BK1.out hb); have h1a : w2.cell? ⟨g1, 0, none⟩ = some (.slice A ns.length c) := (blk_cell BK1'.out 0).trans rfl; have h1b : w2.cell? ⟨g1, 1, none⟩ = some (.int .i64 root) := (blk_cell BK1'.out 1).trans rfl; have hg2_0 : w2.cell? ⟨g2, 0, none⟩ = some (.slice none 0 0) := (blk_cell hbox 0).trans rfl; have fg2_0 := blk_frozen hbox 0; have hg2_1 : w2.cell? ⟨g2, 1, none⟩ = some (.slice none 0 0) := (blk_cell hbox 1).trans rfl; have fg2_1 := blk_frozen hbox 1; have hne12 : g1 ≠ g2 := (by have := blk_lt BK1.out; omega); clear hb hbox hg)) | (go_at_call 36; go_loud (refine (RD.out w2 (HB2.out)).mono ?_; rintro e w3 ⟨⟨Ay0, ny0, cy0, Ay1, ny1, cy1, fy, yb, rfl, hor⟩, hb3⟩; obtain rfl : yb = false := (by rcases hor with h | ⟨_, h, _⟩; exact h.2; cases h); clear hor; have C3 := Aside0.mk hb3; clear h1a h1b hg2_0 hg2_1 fg2_0 fg2_1 hne12 hb3)) | ((with_reducible refine gate_dst (N := 4) rfl ?_); go_loud (refine box_event ?hg (N := 4) ?hd (cs := #[.slice none 0 0, .slice none 0 0]) (t := 47) ?hr ?_; (case hd => rfl); (case hg => rfl); (case hr => first | (go_simp; done) | (go_simp; rfl)); intro g4 hg w4 hbox hb; have C4 := Aside0.mk (below_step C3.out hb); have HB34 := Aside0.mk hb; have BK4 := Aside0.mk hbox; have GE4 := Aside0.mk (show w2.heap.size ≤ g4 by have := below_size C3.out; omega); have GE43 := Aside0.mk (show w3.heap.size ≤ g4 by omega); have hg4_0 : w4.cell? ⟨g4, 0, none⟩ = some (.slice none 0 0) := (blk_cell hbox 0).trans rfl; have fg4_0 := blk_frozen hbox 0; have hg4_1 : w4.cell? ⟨g4, 1, none⟩ = some (.slice none 0 0) := (blk_cell hbox 1).trans rfl; have fg4_1 := blk_frozen hbox 1; clear hb hbox hg)) | ((with_reducible refine gate_store (t := 47) (p := 4) rfl ?_); go_loud (refine store_event (t := 47) (p := 4) (v := ?vo) (w1 := ((w4.setCell ⟨g4, 0, none⟩ (.slice Ay0 ny0 cy0)).setCell ⟨g4, 1, none⟩ (.slice Ay1 ny1 cy1))) ?hg ?ho ?hn ?hr ?_; (case ho => rfl); (case hg => rfl); (case hn => rfl); (case hr => first | (go_simp; done) | (go_simp; rfl)); intro w5 hw; have C5 := Aside0.mk (show Below w2.heap.size w2 w5 by rw [hw]; exact below_set (below_set C4.out GE4.out) GE4.out); have BK4' := Aside0.mk (show w5.heap[g4]? = some (.cells #[.slice Ay0 ny0 cy0, .slice Ay1 ny1 cy1] 47 (0, 0)) by rw [hw]; refine blk_put (cs := #[.slice Ay0 ny0 cy0, .slice none 0 0]) ?_ 1 _ rfl; refine blk_put (cs := #[.slice none 0 0, .slice none 0 0]) ?_ 0 _ rfl; exact BK4.out); clear hw hg4_0 hg4_1 fg4_0 fg4_1; have hg4_0 : w5.cell? ⟨g4, 0, none⟩ = some (.slice Ay0 ny0 cy0) := (blk_cell BK4'.out 0).trans rfl; have hg4_1 : w5.cell? ⟨g4, 1, none⟩ = some (.slice Ay1 ny1 cy1) := (blk_cell BK4'.out 1).trans rfl; have BK2' := Aside0.mk (blk_below BK2.out C5.out); have hg2_0 : w5.cell? ⟨g2, 0, none⟩ = some (.slice none 0 0) := (blk_cell BK2'.out 0).trans rfl; have fg2_0 := blk_frozen BK2'.out 0; have hg2_1 : w5.cell? ⟨g2, 1, none⟩ = some (.slice none 0 0) := (blk_cell BK2'.out 1).trans rfl; have fg2_1 := blk_frozen BK2'.out 1)))
      refine bodyPost_ret (results_ct rfl _ _ g2 47 #[.slice none 0 0, .slice none 0 0] (0, 0) _ rfl (by refine blk_put (cs := #[.slice none 0 0, .slice none 0 0]) ?_ 1 _ rfl; refine blk_put (cs := #[.slice none 0 0, .slice none 0 0]) ?_ 0 _ rfl; exact BK2'.out) Try.underlying47 rfl (by kernel_rfl)) rfl ?_
      exact ⟨⟨_, _, _, _, _, _, _, rfl, .inl ⟨HF.out, rfl⟩⟩, below_set (below_set (below_weaken HB2.out (below_size HB2.out) C5.out) GE2.out) GE2.out⟩
    | some p =>
      obtain ⟨x, f⟩ := p
      have hof2 := HOF.out
      rw [Option.bind_some] at hof2
      have HO2 := Aside0.mk hof2
      have hsh : ShapeF 20 x ∧ (deepF 20 x true ≠ 0 → (keysF 20 x).length ≤ 5242880) := by
        obtain ⟨a_, k_, e1, e2, h1, h⟩ := hsh0 x f rfl
        refine ⟨h, fun hd => ?_⟩
        obtain ⟨d1, d2⟩ := deepF_bal 20 x true h hd
        have h3 := keys_le ns _ 20 20 _ _ x true h1 d1 d2
        have h4 : k_ < ns.length := h1.1
        have := HN.out
        omega
      have HSH := Aside0.mk hsh.1
      have HKL0 := Aside0.mk hsh.2
      clear HOF hof2 hsh hsh0
      by_cases hf : f = 0
      case neg =>
        have hfb : (f != 0) = true := bne_iff_ne.mpr hf
        have HF := Aside0.mk (show ofF ns root = none by rw [HO2.out, if_neg (fun h => hf h.1)])
        clear hf
        go_enter Try.func23, Try.ntmps23
        go_wp2_with (first | ((with_reducible refine gate_dst (N := 1) rfl ?_); go_loud (refine box_event ?hg (N := 1) ?hd (cs := #[.slice A ns.length c, .int .i64 root]) (t := 29) ?hr ?_; (case hd => rfl); (case hg => rfl); (case hr => first | (go_simp; done) | (go_simp; rfl)); intro g1 hg w1 hbox hb; have HB1 := Aside0.mk (below_step HB.out hb); have BK1 := Aside0.mk hbox; clear hb hbox hg)) | ((with_reducible refine gate_dst (N := 2) rfl ?_); go_loud (refine box_event ?hg (N := 2) ?hd (cs := #[.slice none 0 0, .slice none 0 0]) (t := 47) ?hr ?_; (case hd => rfl); (case hg => rfl); (case hr => first | (go_simp; done) | (go_simp; rfl)); intro g2 hg w2 hbox hb; have HB2 := Aside0.mk (below_step HB1.out hb); have BK2 := Aside0.mk hbox; have GE2 := Aside0.mk (show w.heap.size ≤ g2 by have := below_size HB1.out; omega); have LT2 := Aside0.mk (blk_lt hbox); have BK1' := Aside0.mk (blk_below BK1.out hb); have h1a : w2.cell? ⟨g1, 0, none⟩ = some (.slice A ns.length c) := (blk_cell BK1'.out 0).trans rfl; have h1b : w2.cell? ⟨g1, 1, none⟩ = some (.int .i64 root) := (blk_cell BK1'.out 1).trans rfl; have hg2_0 : w2.cell? ⟨g2, 0, none⟩ = some (.slice none 0 0) := (blk_cell hbox 0).trans rfl; have fg2_0 := blk_frozen hbox 0; have hg2_1 : w2.cell? ⟨g2, 1, none⟩ = some (.slice none 0 0) := (blk_cell hbox 1).trans rfl; have fg2_1 := blk_frozen hbox 1; have hne12 : g1 ≠ g2 := (by have := blk_lt BK1.out; omega); clear hb hbox hg)) | (go_at_call 36; go_loud (refine (RD.out w2 (HB2.out)).mono ?_; rintro e w3 ⟨⟨Ay0, ny0, cy0, Ay1, ny1, cy1, fy, yb, rfl, hor⟩, hb3⟩; have hy_ : fy = f ∧ yb = true ∧ ny0 = x.f0.length ∧ ny1 = x.f1.length ∧ Kd.FK k47 w3 (fun q => q < w.heap.size ∨ w2.heap.size ≤ q) x [.slice Ay0 ny0 cy0, .slice Ay1 ny1 cy1] := (by rcases hor with ⟨h, _⟩ | ⟨z, h, h2, h3, h4, h5⟩; cases h; cases h; exact ⟨rfl, h2, h3, h4, h5⟩); obtain ⟨rfl, rfl, rfl, rfl, hk3⟩ := hy_; have HK3 := Aside0.mk hk3; clear hk3 hor; have C3 := Aside0.mk hb3; clear h1a h1b hg2_0 hg2_1 fg2_0 fg2_1 hne12 hb3)) | ((with_reducible refine gate_dst (N := 4) rfl ?_); go_loud (refine box_event ?hg (N := 4) ?hd (cs := #[.slice none 0 0, .slice none 0 0]) (t := 47) ?hr ?_; (case hd => rfl); (case hg => rfl); (case hr => first | (go_simp; done) | (go_simp; rfl)); intro g4 hg w4 hbox hb; have C4 := Aside0.mk (below_step C3.out hb); have HB34 := Aside0.mk hb; have BK4 := Aside0.mk hbox; have GE4 := Aside0.mk (show w2.heap.size ≤ g4 by have := below_size C3.out; omega); have GE43 := Aside0.mk (show w3.heap.size ≤ g4 by omega); have hg4_0 : w4.cell? ⟨g4, 0, none⟩ = some (.slice none 0 0) := (blk_cell hbox 0).trans rfl; have fg4_0 := blk_frozen hbox 0; have hg4_1 : w4.cell? ⟨g4, 1, none⟩ = some (.slice none 0 0) := (blk_cell hbox 1).trans rfl; have fg4_1 := blk_frozen hbox 1; clear hb hbox hg)) | ((with_reducible refine gate_store (t := 47) (p := 4) rfl ?_); go_loud (refine store_event (t := 47) (p := 4) (v := ?vo) (w1 := ((w4.setCell ⟨g4, 0, none⟩ (.slice Ay0 x.f0.length cy0)).setCell ⟨g4, 1, none⟩ (.slice Ay1 x.f1.length cy1))) ?hg ?ho ?hn ?hr ?_; (case ho => rfl); (case hg => rfl); (case hn => rfl); (case hr => first | (go_simp; done) | (go_simp; rfl)); intro w5 hw; have C5 := Aside0.mk (show Below w2.heap.size w2 w5 by rw [hw]; exact below_set (below_set C4.out GE4.out) GE4.out); have BK4' := Aside0.mk (show w5.heap[g4]? = some (.cells #[.slice Ay0 x.f0.length cy0, .slice Ay1 x.f1.length cy1] 47 (0, 0)) by rw [hw]; refine blk_put (cs := #[.slice Ay0 x.f0.length cy0, .slice none 0 0]) ?_ 1 _ rfl; refine blk_put (cs := #[.slice none 0 0, .slice none 0 0]) ?_ 0 _ rfl; exact BK4.out); have HK5 := Aside0.mk (show Kd.FK k47 w5 (fun q => (q < w.heap.size ∨ w2.heap.size ≤ q) ∧ q ≠ g4) x [.slice Ay0 x.f0.length cy0, .slice Ay1 x.f1.length cy1] by rw [hw]; exact Kd.FK_step (Kd.FK_mono (Kd.FK_below (Kd.FK_bound HK3.out) HB34.out) (fun k hk => ⟨hk.1, by have := hk.2; have := GE43.out; omega⟩)) (fun k hk _ => (Below.heap_setCell _ ⟨g4, 1, none⟩ _ k hk.2).trans (Below.heap_setCell _ ⟨g4, 0, none⟩ _ k hk.2))); clear hw hg4_0 hg4_1 fg4_0 fg4_1; have hg4_0 : w5.cell? ⟨g4, 0, none⟩ = some (.slice Ay0 x.f0.length cy0) := (blk_cell BK4'.out 0).trans rfl; have hg4_1 : w5.cell? ⟨g4, 1, none⟩ = some (.slice Ay1 x.f1.length cy1) := (blk_cell BK4'.out 1).trans rfl; have BK2' := Aside0.mk (blk_below BK2.out C5.out); have hg2_0 : w5.cell? ⟨g2, 0, none⟩ = some (.slice none 0 0) := (blk_cell BK2'.out 0).trans rfl; have fg2_0 := blk_frozen BK2'.out 0; have hg2_1 : w5.cell? ⟨g2, 1, none⟩ = some (.slice none 0 0) := (blk_cell BK2'.out 1).trans rfl; have fg2_1 := blk_frozen BK2'.out 1)))
        refine bodyPost_ret (results_ct rfl _ _ g2 47 #[.slice none 0 0, .slice none 0 0] (0, 0) _ rfl (by refine blk_put (cs := #[.slice none 0 0, .slice none 0 0]) ?_ 1 _ rfl; refine blk_put (cs := #[.slice none 0 0, .slice none 0 0]) ?_ 0 _ rfl; exact BK2'.out) Try.underlying47 rfl (by kernel_rfl)) rfl ?_
        exact ⟨⟨_, _, _, _, _, _, _, rfl, .inl ⟨HF.out, rfl⟩⟩, below_set (below_set (below_weaken HB2.out (below_size HB2.out) C5.out) GE2.out) GE2.out⟩
      case pos =>
        subst hf
        obtain ⟨DN, hDN⟩ : ∃ DN, deepF 20 x true = DN := ⟨_, rfl⟩
        by_cases hd : DN = 0
        case pos =>
          have HF := Aside0.mk (show ofF ns root = none by rw [HO2.out, if_neg (fun h => h.2.1 (by rw [hDN, hd]))])
          rw [hd] at hDN
          have HDN := Aside0.mk hDN
          clear hd hDN DN
          go_enter Try.func23, Try.ntmps23
          go_wp2_with (first | ((with_reducible refine gate_dst (N := 1) rfl ?_); go_loud (refine box_event ?hg (N := 1) ?hd (cs := #[.slice A ns.length c, .int .i64 root]) (t := 29) ?hr ?_; (case hd => rfl); (case hg => rfl); (case hr => first | (go_simp; done) | (go_simp; rfl)); intro g1 hg w1 hbox hb; have HB1 := Aside0.mk (below_step HB.out hb); have BK1 := Aside0.mk hbox; clear hb hbox hg)) | ((with_reducible refine gate_dst (N := 2) rfl ?_); go_loud (refine box_event ?hg (N := 2) ?hd (cs := #[.slice none 0 0, .slice none 0 0]) (t := 47) ?hr ?_; (case hd => rfl); (case hg => rfl); (case hr => first | (go_simp; done) | (go_simp; rfl)); intro g2 hg w2 hbox hb; have HB2 := Aside0.mk (below_step HB1.out hb); have BK2 := Aside0.mk hbox; have GE2 := Aside0.mk (show w.heap.size ≤ g2 by have := below_size HB1.out; omega); have LT2 := Aside0.mk (blk_lt hbox); have BK1' := Aside0.mk (blk_below BK1.out hb); have h1a : w2.cell? ⟨g1, 0, none⟩ = some (.slice A ns.length c) := (blk_cell BK1'.out 0).trans rfl; have h1b : w2.cell? ⟨g1, 1, none⟩ = some (.int .i64 root) := (blk_cell BK1'.out 1).trans rfl; have hg2_0 : w2.cell? ⟨g2, 0, none⟩ = some (.slice none 0 0) := (blk_cell hbox 0).trans rfl; have fg2_0 := blk_frozen hbox 0; have hg2_1 : w2.cell? ⟨g2, 1, none⟩ = some (.slice none 0 0) := (blk_cell hbox 1).trans rfl; have fg2_1 := blk_frozen hbox 1; have hne12 : g1 ≠ g2 := (by have := blk_lt BK1.out; omega); clear hb hbox hg)) | (go_at_call 36; go_loud (refine (RD.out w2 (HB2.out)).mono ?_; rintro e w3 ⟨⟨Ay0, ny0, cy0, Ay1, ny1, cy1, fy, yb, rfl, hor⟩, hb3⟩; have hy_ : fy = 0 ∧ yb = true ∧ ny0 = x.f0.length ∧ ny1 = x.f1.length ∧ Kd.FK k47 w3 (fun q => q < w.heap.size ∨ w2.heap.size ≤ q) x [.slice Ay0 ny0 cy0, .slice Ay1 ny1 cy1] := (by rcases hor with ⟨h, _⟩ | ⟨z, h, h2, h3, h4, h5⟩; cases h; cases h; exact ⟨rfl, h2, h3, h4, h5⟩); obtain ⟨rfl, rfl, rfl, rfl, hk3⟩ := hy_; have HK3 := Aside0.mk hk3; clear hk3 hor; have C3 := Aside0.mk hb3; clear h1a h1b hg2_0 hg2_1 fg2_0 fg2_1 hne12 hb3)) | ((with_reducible refine gate_dst (N := 4) rfl ?_); go_loud (refine box_event ?hg (N := 4) ?hd (cs := #[.slice none 0 0, .slice none 0 0]) (t := 47) ?hr ?_; (case hd => rfl); (case hg => rfl); (case hr => first | (go_simp; done) | (go_simp; rfl)); intro g4 hg w4 hbox hb; have C4 := Aside0.mk (below_step C3.out hb); have HB34 := Aside0.mk hb; have BK4 := Aside0.mk hbox; have GE4 := Aside0.mk (show w2.heap.size ≤ g4 by have := below_size C3.out; omega); have GE43 := Aside0.mk (show w3.heap.size ≤ g4 by omega); have hg4_0 : w4.cell? ⟨g4, 0, none⟩ = some (.slice none 0 0) := (blk_cell hbox 0).trans rfl; have fg4_0 := blk_frozen hbox 0; have hg4_1 : w4.cell? ⟨g4, 1, none⟩ = some (.slice none 0 0) := (blk_cell hbox 1).trans rfl; have fg4_1 := blk_frozen hbox 1; clear hb hbox hg)) | ((with_reducible refine gate_store (t := 47) (p := 4) rfl ?_); go_loud (refine store_event (t := 47) (p := 4) (v := ?vo) (w1 := ((w4.setCell ⟨g4, 0, none⟩ (.slice Ay0 x.f0.length cy0)).setCell ⟨g4, 1, none⟩ (.slice Ay1 x.f1.length cy1))) ?hg ?ho ?hn ?hr ?_; (case ho => rfl); (case hg => rfl); (case hn => rfl); (case hr => first | (go_simp; done) | (go_simp; rfl)); intro w5 hw; have C5 := Aside0.mk (show Below w2.heap.size w2 w5 by rw [hw]; exact below_set (below_set C4.out GE4.out) GE4.out); have BK4' := Aside0.mk (show w5.heap[g4]? = some (.cells #[.slice Ay0 x.f0.length cy0, .slice Ay1 x.f1.length cy1] 47 (0, 0)) by rw [hw]; refine blk_put (cs := #[.slice Ay0 x.f0.length cy0, .slice none 0 0]) ?_ 1 _ rfl; refine blk_put (cs := #[.slice none 0 0, .slice none 0 0]) ?_ 0 _ rfl; exact BK4.out); have HK5 := Aside0.mk (show Kd.FK k47 w5 (fun q => (q < w.heap.size ∨ w2.heap.size ≤ q) ∧ q ≠ g4) x [.slice Ay0 x.f0.length cy0, .slice Ay1 x.f1.length cy1] by rw [hw]; exact Kd.FK_step (Kd.FK_mono (Kd.FK_below (Kd.FK_bound HK3.out) HB34.out) (fun k hk => ⟨hk.1, by have := hk.2; have := GE43.out; omega⟩)) (fun k hk _ => (Below.heap_setCell _ ⟨g4, 1, none⟩ _ k hk.2).trans (Below.heap_setCell _ ⟨g4, 0, none⟩ _ k hk.2))); clear hw hg4_0 hg4_1 fg4_0 fg4_1; have hg4_0 : w5.cell? ⟨g4, 0, none⟩ = some (.slice Ay0 x.f0.length cy0) := (blk_cell BK4'.out 0).trans rfl; have hg4_1 : w5.cell? ⟨g4, 1, none⟩ = some (.slice Ay1 x.f1.length cy1) := (blk_cell BK4'.out 1).trans rfl; have BK2' := Aside0.mk (blk_below BK2.out C5.out); have hg2_0 : w5.cell? ⟨g2, 0, none⟩ = some (.slice none 0 0) := (blk_cell BK2'.out 0).trans rfl; have fg2_0 := blk_frozen BK2'.out 0; have hg2_1 : w5.cell? ⟨g2, 1, none⟩ = some (.slice none 0 0) := (blk_cell BK2'.out 1).trans rfl; have fg2_1 := blk_frozen BK2'.out 1)) | (go_at_call 27; go_loud (refine (deep_w 20 (by decide) HSH.out (Kd.FK_now HK5.out)).mono ?_; rw [HDN.out]; rintro e w6 ⟨rfl, hb6⟩; have C6 := Aside0.mk (below_step C5.out hb6); have HB56 := Aside0.mk hb6; clear hg4_0 hg4_1 hg2_0 hg2_1 fg2_0 fg2_1; have BK4b := Aside0.mk (blk_below BK4'.out hb6); have BK2b := Aside0.mk (blk_below BK2'.out hb6); clear hb6; have hg4_0 : w6.cell? ⟨g4, 0, none⟩ = some (.slice Ay0 x.f0.length cy0) := (blk_cell BK4b.out 0).trans rfl; have hg4_1 : w6.cell? ⟨g4, 1, none⟩ = some (.slice Ay1 x.f1.length cy1) := (blk_cell BK4b.out 1).trans rfl; have hg2_0 : w6.cell? ⟨g2, 0, none⟩ = some (.slice none 0 0) := (blk_cell BK2b.out 0).trans rfl; have fg2_0 := blk_frozen BK2b.out 0; have hg2_1 : w6.cell? ⟨g2, 1, none⟩ = some (.slice none 0 0) := (blk_cell BK2b.out 1).trans rfl; have fg2_1 := blk_frozen BK2b.out 1)))
          refine bodyPost_ret (results_ct rfl _ _ g2 47 #[.slice none 0 0, .slice none 0 0] (0, 0) _ rfl (by refine blk_put (cs := #[.slice none 0 0, .slice none 0 0]) ?_ 1 _ rfl; refine blk_put (cs := #[.slice none 0 0, .slice none 0 0]) ?_ 0 _ rfl; exact BK2b.out) Try.underlying47 rfl (by kernel_rfl)) rfl ?_
          exact ⟨⟨_, _, _, _, _, _, _, rfl, .inl ⟨HF.out, rfl⟩⟩, below_set (below_set (below_weaken HB2.out (below_size HB2.out) C6.out) GE2.out) GE2.out⟩
        case neg =>
          have HKL := Aside0.mk (show (keysF 20 x).length < 1099511627776 by have := HKL0.out (by rw [hDN]; exact hd); omega)
          obtain ⟨L, hL⟩ : ∃ L, keysF 20 x = L := ⟨_, rfl⟩
          have HLE := Aside0.mk hL
          have hdb : (((DN : Nat) : Int) == 0) = false := by
            rw [Bool.eq_false_iff]
            intro h
            have := eq_of_beq h
            omega
          have HDN := Aside0.mk hDN
          have HO3 := Aside0.mk (show ofF ns root = if sorB L = true ∧ L.length ≤ 200 then some x else none by
            rw [HO2.out, hL]
            by_cases h : sorB L = true ∧ L.length ≤ 200
            · rw [if_pos h, if_pos ⟨rfl, by rw [hDN]; exact hd, h⟩]
            · rw [if_neg h, if_neg (fun q => h q.2.2)])
          have HLB := Aside0.mk (show L.length < 1099511627776 by rw [← hL]; exact HKL.out)
          clear hd hDN hL HO2 HKL0
          go_enter Try.func23, Try.ntmps23
          go_wp2_with (first | ((with_reducible refine gate_dst (N := 1) rfl ?_); go_loud (refine box_event ?hg (N := 1) ?hd (cs := #[.slice A ns.length c, .int .i64 root]) (t := 29) ?hr ?_; (case hd => rfl); (case hg => rfl); (case hr => first | (go_simp; done) | (go_simp; rfl)); intro g1 hg w1 hbox hb; have HB1 := Aside0.mk (below_step HB.out hb); have BK1 := Aside0.mk hbox; clear hb hbox hg)) | ((with_reducible refine gate_dst (N := 2) rfl ?_); go_loud (refine box_event ?hg (N := 2) ?hd (cs := #[.slice none 0 0, .slice none 0 0]) (t := 47) ?hr ?_; (case hd => rfl); (case hg => rfl); (case hr => first | (go_simp; done) | (go_simp; rfl)); intro g2 hg w2 hbox hb; have HB2 := Aside0.mk (below_step HB1.out hb); have BK2 := Aside0.mk hbox; have GE2 := Aside0.mk (show w.heap.size ≤ g2 by have := below_size HB1.out; omega); have LT2 := Aside0.mk (blk_lt hbox); have BK1' := Aside0.mk (blk_below BK1.out hb); have h1a : w2.cell? ⟨g1, 0, none⟩ = some (.slice A ns.length c) := (blk_cell BK1'.out 0).trans rfl; have h1b : w2.cell? ⟨g1, 1, none⟩ = some (.int .i64 root) := (blk_cell BK1'.out 1).trans rfl; have hg2_0 : w2.cell? ⟨g2, 0, none⟩ = some (.slice none 0 0) := (blk_cell hbox 0).trans rfl; have fg2_0 := blk_frozen hbox 0; have hg2_1 : w2.cell? ⟨g2, 1, none⟩ = some (.slice none 0 0) := (blk_cell hbox 1).trans rfl; have fg2_1 := blk_frozen hbox 1; have hne12 : g1 ≠ g2 := (by have := blk_lt BK1.out; omega); clear hb hbox hg)) | (go_at_call 36; go_loud (refine (RD.out w2 (HB2.out)).mono ?_; rintro e w3 ⟨⟨Ay0, ny0, cy0, Ay1, ny1, cy1, fy, yb, rfl, hor⟩, hb3⟩; have hy_ : fy = 0 ∧ yb = true ∧ ny0 = x.f0.length ∧ ny1 = x.f1.length ∧ Kd.FK k47 w3 (fun q => q < w.heap.size ∨ w2.heap.size ≤ q) x [.slice Ay0 ny0 cy0, .slice Ay1 ny1 cy1] := (by rcases hor with ⟨h, _⟩ | ⟨z, h, h2, h3, h4, h5⟩; cases h; cases h; exact ⟨rfl, h2, h3, h4, h5⟩); obtain ⟨rfl, rfl, rfl, rfl, hk3⟩ := hy_; have HK3 := Aside0.mk hk3; clear hk3 hor; have C3 := Aside0.mk hb3; clear h1a h1b hg2_0 hg2_1 fg2_0 fg2_1 hne12 hb3)) | ((with_reducible refine gate_dst (N := 4) rfl ?_); go_loud (refine box_event ?hg (N := 4) ?hd (cs := #[.slice none 0 0, .slice none 0 0]) (t := 47) ?hr ?_; (case hd => rfl); (case hg => rfl); (case hr => first | (go_simp; done) | (go_simp; rfl)); intro g4 hg w4 hbox hb; have C4 := Aside0.mk (below_step C3.out hb); have HB34 := Aside0.mk hb; have BK4 := Aside0.mk hbox; have GE4 := Aside0.mk (show w2.heap.size ≤ g4 by have := below_size C3.out; omega); have GE43 := Aside0.mk (show w3.heap.size ≤ g4 by omega); have hg4_0 : w4.cell? ⟨g4, 0, none⟩ = some (.slice none 0 0) := (blk_cell hbox 0).trans rfl; have fg4_0 := blk_frozen hbox 0; have hg4_1 : w4.cell? ⟨g4, 1, none⟩ = some (.slice none 0 0) := (blk_cell hbox 1).trans rfl; have fg4_1 := blk_frozen hbox 1; clear hb hbox hg)) | ((with_reducible refine gate_store (t := 47) (p := 4) rfl ?_); go_loud (refine store_event (t := 47) (p := 4) (v := ?vo) (w1 := ((w4.setCell ⟨g4, 0, none⟩ (.slice Ay0 x.f0.length cy0)).setCell ⟨g4, 1, none⟩ (.slice Ay1 x.f1.length cy1))) ?hg ?ho ?hn ?hr ?_; (case ho => rfl); (case hg => rfl); (case hn => rfl); (case hr => first | (go_simp; done) | (go_simp; rfl)); intro w5 hw; have C5 := Aside0.mk (show Below w2.heap.size w2 w5 by rw [hw]; exact below_set (below_set C4.out GE4.out) GE4.out); have BK4' := Aside0.mk (show w5.heap[g4]? = some (.cells #[.slice Ay0 x.f0.length cy0, .slice Ay1 x.f1.length cy1] 47 (0, 0)) by rw [hw]; refine blk_put (cs := #[.slice Ay0 x.f0.length cy0, .slice none 0 0]) ?_ 1 _ rfl; refine blk_put (cs := #[.slice none 0 0, .slice none 0 0]) ?_ 0 _ rfl; exact BK4.out); have HK5 := Aside0.mk (show Kd.FK k47 w5 (fun q => (q < w.heap.size ∨ w2.heap.size ≤ q) ∧ q ≠ g4) x [.slice Ay0 x.f0.length cy0, .slice Ay1 x.f1.length cy1] by rw [hw]; exact Kd.FK_step (Kd.FK_mono (Kd.FK_below (Kd.FK_bound HK3.out) HB34.out) (fun k hk => ⟨hk.1, by have := hk.2; have := GE43.out; omega⟩)) (fun k hk _ => (Below.heap_setCell _ ⟨g4, 1, none⟩ _ k hk.2).trans (Below.heap_setCell _ ⟨g4, 0, none⟩ _ k hk.2))); clear hw hg4_0 hg4_1 fg4_0 fg4_1; have hg4_0 : w5.cell? ⟨g4, 0, none⟩ = some (.slice Ay0 x.f0.length cy0) := (blk_cell BK4'.out 0).trans rfl; have hg4_1 : w5.cell? ⟨g4, 1, none⟩ = some (.slice Ay1 x.f1.length cy1) := (blk_cell BK4'.out 1).trans rfl; have BK2' := Aside0.mk (blk_below BK2.out C5.out); have hg2_0 : w5.cell? ⟨g2, 0, none⟩ = some (.slice none 0 0) := (blk_cell BK2'.out 0).trans rfl; have fg2_0 := blk_frozen BK2'.out 0; have hg2_1 : w5.cell? ⟨g2, 1, none⟩ = some (.slice none 0 0) := (blk_cell BK2'.out 1).trans rfl; have fg2_1 := blk_frozen BK2'.out 1)) | (go_at_call 27; go_loud (refine (deep_w 20 (by decide) HSH.out (Kd.FK_now HK5.out)).mono ?_; rw [HDN.out]; rintro e w6 ⟨rfl, hb6⟩; have C6 := Aside0.mk (below_step C5.out hb6); have HB56 := Aside0.mk hb6; clear hg4_0 hg4_1 hg2_0 hg2_1 fg2_0 fg2_1; have BK4b := Aside0.mk (blk_below BK4'.out hb6); have BK2b := Aside0.mk (blk_below BK2'.out hb6); clear hb6; have hg4_0 : w6.cell? ⟨g4, 0, none⟩ = some (.slice Ay0 x.f0.length cy0) := (blk_cell BK4b.out 0).trans rfl; have hg4_1 : w6.cell? ⟨g4, 1, none⟩ = some (.slice Ay1 x.f1.length cy1) := (blk_cell BK4b.out 1).trans rfl; have hg2_0 : w6.cell? ⟨g2, 0, none⟩ = some (.slice none 0 0) := (blk_cell BK2b.out 0).trans rfl; have fg2_0 := blk_frozen BK2b.out 0; have hg2_1 : w6.cell? ⟨g2, 1, none⟩ = some (.slice none 0 0) := (blk_cell BK2b.out 1).trans rfl; have fg2_1 := blk_frozen BK2b.out 1)) | (go_at_call 29; go_loud (refine (keys_w 20 HSH.out HKL.out (k47.K_below HB56.out (Kd.FK_now HK5.out))).mono ?_; rw [HLE.out]; rintro e w7 ⟨⟨Al, cl, rfl, hll, hlc⟩, hb7⟩; have C7 := Aside0.mk (below_step C6.out hb7); have HB57 := Aside0.mk (below_step HB56.out hb7); have BK4d := Aside0.mk (blk_below BK4b.out hb7); have BK2d := Aside0.mk (blk_below BK2b.out hb7); have HLC := Aside0.mk hlc; have HLL := Aside0.mk hll; clear hg4_0 hg4_1 hg2_0 hg2_1 fg2_0 fg2_1 hb7 hll hlc)))
          go_loopg [42] L.length (fun kq v42 w' => ∃ i : Nat, v42 = .int .i64 (i : Int) ∧ i ≤ L.length ∧ L.length - i ≤ kq ∧ Aside0 (∀ t, t < i → keyT ⟨L, []⟩ (-1) 1000001 t = true) ∧ Aside0 (Below w7.heap.size w7 w'))
          case atStart => exact ⟨0, rfl, Nat.zero_le _, Nat.le_of_eq (Nat.sub_zero _), ⟨fun t h => absurd h (Nat.not_lt_zero t)⟩, ⟨Below.refl _ _⟩⟩
          case round =>
            obtain ⟨i, rfl, hin, hkq, HKT, HB7⟩ := hrel
            by_cases hlt : i < L.length
            · have pi : 0 ≤ (i : Int) := Int.natCast_nonneg i
              have qi : (i : Int) < (L.length : Int) := Int.ofNat_lt.mpr hlt
              obtain ⟨adl, el, hxi⟩ := Kd.at_int (Kd.C_below HLC.out HB7.out) (i : Int) pi qi
              cases el
              rw [rd_get, Int.toNat_natCast] at hxi
              obtain ⟨ki, hki⟩ : ∃ ki, L.getD i 0 = ki := ⟨_, rfl⟩
              rw [hki] at hxi
              have HKI := Aside0.mk hki
              have HW := Aside0.mk (wrap_inc i (Nat.lt_trans hlt HLB.out))
              have HME := Aside0.mk (meas_dec hkq hlt)
              have HLT := Aside0.mk hlt
              have BAD : Aside0 (keyT ⟨L, []⟩ (-1) 1000001 i = false → ofF ns root = none) := ⟨fun h => by rw [HO3.out, if_neg (fun q => by rw [sorB, all_to _ _ i hlt h] at q; cases q.1)]⟩
              obtain ⟨bi, hbi⟩ : ∃ bi, (decide (0 ≤ ki) && decide (ki ≤ 1000000)) = bi := ⟨_, rfl⟩
              have INC : Aside0 (∀ W, Calls Try.prog 37 #[.int .i64 ki, .int .i64 0, .int .i64 1000000] W fun e w' => e = .returned (.bool bi) ∧ Below W.heap.size W w') := ⟨fun W => by
                have := in_w ki 0 1000000 W
                rw [hbi] at this
                exact this⟩
              have HBI := Aside0.mk hbi
              clear hkq hlt hin hki hbi
              cases bi with
              | false =>
                have HF := Aside0.mk (BAD.out (by
                  have h := HBI.out
                  rw [Bool.and_eq_false_iff, decide_eq_false_iff_not, decide_eq_false_iff_not] at h
                  rw [keyT, HKI.out, Bool.and_eq_false_iff, Bool.and_eq_false_iff, decide_eq_false_iff_not, decide_eq_false_iff_not]
                  omega))
                go_wp2_with (first | (go_at_call 37; go_loud (refine (INC.out _).mono ?_; rintro e w8 ⟨rfl, hb8⟩; have HB8 := Aside0.mk (below_step HB7.out hb8); clear hb8; have BK2c := Aside0.mk (blk_below BK2d.out HB8.out); have hg2_0 : w8.cell? ⟨g2, 0, none⟩ = some (.slice none 0 0) := (blk_cell BK2c.out 0).trans rfl; have fg2_0 := blk_frozen BK2c.out 0; have hg2_1 : w8.cell? ⟨g2, 1, none⟩ = some (.slice none 0 0) := (blk_cell BK2c.out 1).trans rfl; have fg2_1 := blk_frozen BK2c.out 1)))
                refine bodyPost_ret (results_ct rfl _ _ g2 47 #[.slice none 0 0, .slice none 0 0] (0, 0) _ rfl (by refine blk_put (cs := #[.slice none 0 0, .slice none 0 0]) ?_ 1 _ rfl; refine blk_put (cs := #[.slice none 0 0, .slice none 0 0]) ?_ 0 _ rfl; exact BK2c.out) Try.underlying47 rfl (by kernel_rfl)) rfl ?_
                exact ⟨⟨_, _, _, _, _, _, _, rfl, .inl ⟨HF.out, rfl⟩⟩, below_set (below_set (below_weaken HB2.out (below_size HB2.out) (below_then C7.out (below_size C7.out) HB8.out)) GE2.out) GE2.out⟩
              | true =>
                have hin2 : 0 ≤ ki ∧ ki ≤ 1000000 := by
                  have h := HBI.out
                  rw [Bool.and_eq_true, decide_eq_true_iff, decide_eq_true_iff] at h
                  exact h
                have HIN2 := Aside0.mk hin2
                clear hin2
                by_cases h0 : i = 0
                · have hg : decide ((i : Int) > 0) = false := decide_eq_false (by omega)
                  have hg2 : ¬ ((i : Int) > 0) := by omega
                  have HKN := Aside0.mk (show ∀ t, t < i + 1 → keyT ⟨L, []⟩ (-1) 1000001 t = true from fun t ht => by
                    rw [show t = i by omega, keyT, HKI.out, decide_eq_true (show (-1 : Int) < ki by have := HIN2.out; omega), decide_eq_true (show ki < 1000001 by have := HIN2.out; omega), decide_eq_true h0]; rfl)
                  clear h0
                  go_wp2_with (first | (go_at_call 37; go_loud (refine (INC.out _).mono ?_; rintro e w8 ⟨rfl, hb8⟩; have HB8 := Aside0.mk (below_step HB7.out hb8); clear hb8; skip)))
                  go_roundg (L.length - (i + 1))
                  case measure => exact HME.out
                  case rel => exact ⟨i + 1, by first | (rw [HW.out]; done) | rfl, HLT.out, Nat.le_refl _, HKN, HB8⟩
                · obtain ⟨j, hij⟩ : ∃ j, i = j + 1 := ⟨i - 1, by omega⟩
                  have hg : decide ((i : Int) > 0) = true := decide_eq_true (by omega)
                  have hg2 : (i : Int) > 0 := by omega
                  have hwj : wrap64 ((i : Int) - 1) = (j : Int) := by unfold wrap64; have := HLT.out; have := HLB.out; omega
                  have pj : 0 ≤ (j : Int) := Int.natCast_nonneg j
                  have qj : (j : Int) < (L.length : Int) := by have := HLT.out; omega
                  obtain ⟨adl2, el2, hxp0⟩ := Kd.at_int HLC.out (j : Int) pj qj
                  cases el2
                  rw [rd_get, Int.toNat_natCast] at hxp0
                  obtain ⟨kp, hkp⟩ : ∃ kp, L.getD j 0 = kp := ⟨_, rfl⟩
                  rw [hkp] at hxp0
                  have HKP := Aside0.mk hkp
                  have HIJ := Aside0.mk hij
                  clear h0 hkp hij
                  by_cases hge : kp ≥ ki
                  · have hgb : decide (kp ≥ ki) = true := decide_eq_true hge
                    have HF := Aside0.mk (BAD.out (by
                      rw [keyT]
                      show (_ && (decide (i = 0) || decide (L.getD (i - 1) 0 < L.getD i 0))) = false
                      rw [show i - 1 = j by have := HIJ.out; omega, HKP.out, HKI.out, decide_eq_false (show ¬ i = 0 by have := HIJ.out; omega), decide_eq_false (show ¬ kp < ki by omega), Bool.or_false, Bool.and_false]))
                    go_wp2_with (first | (go_at_call 37; go_loud (refine (INC.out _).mono ?_; rintro e w8 ⟨rfl, hb8⟩; have HB8 := Aside0.mk (below_step HB7.out hb8); clear hb8; have hxp : w8.cell? (adl.add j) = some (.int .i64 kp) := (HB8.out.cell (World.block_lt_of_cell? _ _ hxp0)).trans hxp0; have BK2c := Aside0.mk (blk_below BK2d.out HB8.out); have hg2_0 : w8.cell? ⟨g2, 0, none⟩ = some (.slice none 0 0) := (blk_cell BK2c.out 0).trans rfl; have fg2_0 := blk_frozen BK2c.out 0; have hg2_1 : w8.cell? ⟨g2, 1, none⟩ = some (.slice none 0 0) := (blk_cell BK2c.out 1).trans rfl; have fg2_1 := blk_frozen BK2c.out 1)))
                    refine bodyPost_ret (results_ct rfl _ _ g2 47 #[.slice none 0 0, .slice none 0 0] (0, 0) _ rfl (by refine blk_put (cs := #[.slice none 0 0, .slice none 0 0]) ?_ 1 _ rfl; refine blk_put (cs := #[.slice none 0 0, .slice none 0 0]) ?_ 0 _ rfl; exact BK2c.out) Try.underlying47 rfl (by kernel_rfl)) rfl ?_
                    exact ⟨⟨_, _, _, _, _, _, _, rfl, .inl ⟨HF.out, rfl⟩⟩, below_set (below_set (below_weaken HB2.out (below_size HB2.out) (below_then C7.out (below_size C7.out) HB8.out)) GE2.out) GE2.out⟩
                  · have hgb : decide (kp ≥ ki) = false := decide_eq_false hge
                    have HKN := Aside0.mk (show ∀ t, t < i + 1 → keyT ⟨L, []⟩ (-1) 1000001 t = true from fun t ht => by
                      by_cases h : t < i
                      · exact HKT.out t h
                      · rw [show t = i by omega, keyT]
                        show (_ && _ && (decide (i = 0) || decide (L.getD (i - 1) 0 < L.getD i 0))) = true
                        rw [show i - 1 = j by have := HIJ.out; omega, HKP.out, HKI.out, decide_eq_true (show (-1 : Int) < ki by have := HIN2.out; omega), decide_eq_true (show ki < 1000001 by have := HIN2.out; omega), decide_eq_true (show kp < ki by omega), Bool.or_true]
                        rfl)
                    go_wp2_with (first | (go_at_call 37; go_loud (refine (INC.out _).mono ?_; rintro e w8 ⟨rfl, hb8⟩; have HB8 := Aside0.mk (below_step HB7.out hb8); clear hb8; have hxp : w8.cell? (adl.add j) = some (.int .i64 kp) := (HB8.out.cell (World.block_lt_of_cell? _ _ hxp0)).trans hxp0; have BK2c := Aside0.mk (blk_below BK2d.out HB8.out); have hg2_0 : w8.cell? ⟨g2, 0, none⟩ = some (.slice none 0 0) := (blk_cell BK2c.out 0).trans rfl; have fg2_0 := blk_frozen BK2c.out 0; have hg2_1 : w8.cell? ⟨g2, 1, none⟩ = some (.slice none 0 0) := (blk_cell BK2c.out 1).trans rfl; have fg2_1 := blk_frozen BK2c.out 1)))
                    go_roundg (L.length - (i + 1))
                    case measure => exact HME.out
                    case rel => exact ⟨i + 1, by first | (rw [HW.out]; done) | rfl, HLT.out, Nat.le_refl _, HKN, HB8⟩
            · obtain rfl : i = L.length := Nat.le_antisymm hin (Nat.not_lt.mp hlt)
              have hnl : ¬ ((L.length : Int) < (L.length : Int)) := Int.lt_irrefl _
              have HSB := Aside0.mk (show sorB L = true from all_up _ _ HKT.out)
              obtain ⟨bl, hbl⟩ : ∃ bl, decide ((L.length : Int) ≤ 200) = bl := ⟨_, rfl⟩
              have HBL := Aside0.mk hbl
              have BK2e := Aside0.mk (blk_below BK2d.out HB7.out)
              have BK4e := Aside0.mk (blk_below BK4d.out HB7.out)
              have HB5r := Aside0.mk (below_then HB57.out (below_size HB57.out) HB7.out)
              clear hkq hlt hin
              have hg4_0 : wr.cell? ⟨g4, 0, none⟩ = some (.slice Ay0 x.f0.length cy0) := (blk_cell BK4e.out 0).trans rfl
              have hg4_1 : wr.cell? ⟨g4, 1, none⟩ = some (.slice Ay1 x.f1.length cy1) := (blk_cell BK4e.out 1).trans rfl
              have hg2_0 : wr.cell? ⟨g2, 0, none⟩ = some (.slice none 0 0) := (blk_cell BK2e.out 0).trans rfl
              have hg2_1 : wr.cell? ⟨g2, 1, none⟩ = some (.slice none 0 0) := (blk_cell BK2e.out 1).trans rfl
              have fg2_0 := blk_frozen BK2e.out 0
              have fg2_1 := blk_frozen BK2e.out 1
              go_wp2
              refine bodyPost_ret (results_ct rfl _ _ g2 47 #[.slice Ay0 x.f0.length cy0, .slice Ay1 x.f1.length cy1] (0, 0) _ rfl (by refine blk_put (cs := #[.slice Ay0 x.f0.length cy0, .slice none 0 0]) ?_ 1 _ rfl; refine blk_put (cs := #[.slice none 0 0, .slice none 0 0]) ?_ 0 _ rfl; exact BK2e.out) Try.underlying47 rfl (by kernel_rfl)) rfl ?_
              refine ⟨⟨_, _, _, _, _, _, bl, by first | rfl | (rw [← HBL.out]; rfl), ?_⟩, below_set (below_set (below_weaken HB2.out (below_size HB2.out) (below_then C7.out (below_size C7.out) HB7.out)) GE2.out) GE2.out⟩
              have h3 := HO3.out
              cases bl with
              | false =>
                refine .inl ⟨?_, rfl⟩
                rw [h3, if_neg]
                rintro ⟨_, h⟩
                have := of_decide_eq_false HBL.out
                omega
              | true =>
                have := of_decide_eq_true HBL.out
                rw [if_pos ⟨HSB.out, by omega⟩] at h3
                refine .inr ⟨x, h3, rfl, rfl, rfl, ?_⟩
                refine Kd.FK_now (Kd.FK_step (Kd.FK_below HK5.out HB5r.out) (fun k hk _ => ?_))
                have h2 : k ≠ g2 := by
                  have := GE2.out; have := LT2.out
                  rcases hk with ⟨h | h, _⟩ <;> omega
                exact (Below.heap_setCell _ ⟨g2, 1, none⟩ _ k h2).trans (Below.heap_setCell _ ⟨g2, 0, none⟩ _ k h2)
/-! #### GoodTree, DepthOf: the program's and the reference's -/
def szT (l : List S73) : Bool := decide (l.length ≤ 1048576) && l.all (fun x => decide (x.f1.length ≤ 1048576) && decide (x.f2.length ≤ 1048576))
theorem szT_len {l : List S73} (h : szT l = true) : l.length ≤ 1048576 := of_decide_eq_true ((Bool.and_eq_true _ _).mp h).1
theorem szT_at {l : List S73} (h : szT l = true) (i : Nat) : (nodeAt l i).f1.length < 1099511627776 ∧ (nodeAt l i).f2.length < 1099511627776 := by
  have h2 := ((Bool.and_eq_true _ _).mp h).2
  rw [List.all_eq_true] at h2
  by_cases hi : i < l.length
  · have h3 := h2 _ (getD_mem l i z73 hi)
    rw [Bool.and_eq_true, decide_eq_true_iff, decide_eq_true_iff] at h3
    show (l.getD i z73).f1.length < _ ∧ (l.getD i z73).f2.length < _
    omega
  · have : nodeAt l i = z73 := by
      unfold nodeAt
      rw [List.getD_eq_getElem?_getD, List.getElem?_eq_none (by omega)]
      rfl
    rw [this]
    exact ⟨by decide, by decide⟩
theorem goodbr_w (A : Option Addr) (c : Nat) (ns : List S73) (root : Int) (w : World) (hr : Kd.C k73 w A ns.length ns) (hc : ns.length ≤ c) (hs : szT ns = true) {W : World} (hb : Below w.heap.size w W) : Calls Try.prog 25 #[.agg #[.slice A ns.length c, .int .i64 root]] W fun e w' => (∃ v, e = .returned (.tuple #[v, .bool (goodF ns root).isSome]) ∧ ∀ x, goodF ns root = some x → RepB ns.length w' x v) ∧ Below W.heap.size W w' :=
  (goodbr_walk A c ns root W (Kd.C_below hr hb) hc (szT_at hs)).mono (by
    rintro e w' ⟨⟨v, b, h1, h2⟩, h3⟩
    refine ⟨⟨v, ?_, ?_⟩, h3⟩
    · rcases h2 with ⟨h, rfl⟩ | ⟨x, h, rfl, _⟩ <;> rw [h] <;> exact h1
    · intro x hx
      rcases h2 with ⟨h, _⟩ | ⟨y, h, _, hy⟩
      · rw [h] at hx; cases hx
      · rw [h] at hx; cases hx; exact hy)
theorem l7of_w (A : Option Addr) (c : Nat) (ns : List S73) (root : Int) (w : World) (hr : Kd.C k73 w A ns.length ns) (hc : ns.length ≤ c) (hs : szT ns = true) {W : World} (hb : Below w.heap.size w W) : Calls Try.prog 23 #[.agg #[.slice A ns.length c, .int .i64 root]] W fun e w' => (∃ A0 n0 c0 A1 n1 c1, e = .returned (.tuple #[.agg #[.slice A0 n0 c0, .slice A1 n1 c1], .bool (ofF ns root).isSome]) ∧ ∀ x, ofF ns root = some x → n0 = x.f0.length ∧ n1 = x.f1.length ∧ k47.K w' x [.slice A0 n0 c0, .slice A1 n1 c1]) ∧ Below W.heap.size W w' :=
  (l7of_walk A c ns root W (Kd.C_below hr hb) hc (szT_len hs) (szT_at hs)).mono (by
    rintro e w' ⟨⟨A0, n0, c0, A1, n1, c1, b, h1, h2⟩, h3⟩
    refine ⟨⟨A0, n0, c0, A1, n1, c1, ?_, ?_⟩, h3⟩
    · rcases h2 with ⟨h, rfl⟩ | ⟨x, h, rfl, _⟩ <;> rw [h] <;> exact h1
    · intro x hx
      rcases h2 with ⟨h, _⟩ | ⟨y, h, _, hy⟩
      · rw [h] at hx; cases hx
      · rw [h] at hx; cases hx; exact hy)
set_option maxHeartbeats 2000000 in
theorem impl_good_w (A : Option Addr) (c : Nat) (ns : List S73) (root : Int) (w : World) (hr : Kd.C k73 w A ns.length ns) (hc : ns.length ≤ c) (hs : szT ns = true) : Calls Try.prog 10 #[.agg #[.slice A ns.length c, .int .i64 root]] w fun e w' => e = .returned (.bool (goodF ns root).isSome) ∧ Below w.heap.size w w' := by
  have BR : Aside0 (∀ W : World, Below w.heap.size w W → Calls Try.prog 25 #[.agg #[.slice A ns.length c, .int .i64 root]] W fun e w' => (∃ v, e = .returned (.tuple #[v, .bool (goodF ns root).isSome]) ∧ ∀ x, goodF ns root = some x → RepB ns.length w' x v) ∧ Below W.heap.size W w') := ⟨fun W hb => goodbr_w A c ns root w hr hc hs hb⟩
  have HB := Aside0.mk (Below.refl w.heap.size w)
  generalize (goodF ns root).isSome = bg at BR ⊢
  clear hr hc hs
  go_enter Try.func10, Try.ntmps10
  go_wp2_with (first | ((with_reducible refine gate_dst (N := 1) rfl ?_); go_loud (refine box_event ?hg (N := 1) ?hd (cs := #[.slice A ns.length c, .int .i64 root]) (t := 29) ?hr ?_; (case hd => rfl); (case hg => rfl); (case hr => first | (go_simp; done) | (go_simp; rfl)); intro gb hg w1 hbox hb; have HB1 := Aside0.mk (below_step HB.out hb); have hcz0 : w1.cell? ⟨gb, 0, none⟩ = some (.slice A ns.length c) := (blk_cell hbox 0).trans rfl; have hcz1 : w1.cell? ⟨gb, 1, none⟩ = some (.int .i64 root) := (blk_cell hbox 1).trans rfl; clear HB; clear hb hbox hg)) | (go_at_call 25; go_loud (refine (BR.out _ HB1.out).mono ?_; rintro e w2 ⟨⟨v, rfl, _⟩, hb2⟩; have HB2 := Aside0.mk (below_step HB1.out hb2); clear hb2 hcz0 hcz1)))
  go_ret
  exact ⟨rfl, HB2.out⟩
set_option maxHeartbeats 2000000 in
theorem spec_good_w (A : Option Addr) (c : Nat) (ns : List S73) (root : Int) (w : World) (hr : Kd.C k73 w A ns.length ns) (hc : ns.length ≤ c) (hs : szT ns = true) : Calls Try.prog 8 #[.agg #[.slice A ns.length c, .int .i64 root]] w fun e w' => e = .returned (.bool (ofF ns root).isSome) ∧ Below w.heap.size w w' := by
  have BR : Aside0 (∀ W : World, Below w.heap.size w W → Calls Try.prog 23 #[.agg #[.slice A ns.length c, .int .i64 root]] W fun e w' => (∃ A0 n0 c0 A1 n1 c1, e = .returned (.tuple #[.agg #[.slice A0 n0 c0, .slice A1 n1 c1], .bool (ofF ns root).isSome])) ∧ Below W.heap.size W w') := ⟨fun W hb => (l7of_w A c ns root w hr hc hs hb).mono (fun e w' h => ⟨by obtain ⟨⟨A0, n0, c0, A1, n1, c1, h1, _⟩, _⟩ := h; exact ⟨A0, n0, c0, A1, n1, c1, h1⟩, h.2⟩)⟩
  have HB := Aside0.mk (Below.refl w.heap.size w)
  generalize (ofF ns root).isSome = bg at BR ⊢
  clear hr hc hs
  go_enter Try.func8, Try.ntmps8
  go_wp2_with (first | ((with_reducible refine gate_dst (N := 1) rfl ?_); go_loud (refine box_event ?hg (N := 1) ?hd (cs := #[.slice A ns.length c, .int .i64 root]) (t := 29) ?hr ?_; (case hd => rfl); (case hg => rfl); (case hr => first | (go_simp; done) | (go_simp; rfl)); intro gb hg w1 hbox hb; have HB1 := Aside0.mk (below_step HB.out hb); have hcz0 : w1.cell? ⟨gb, 0, none⟩ = some (.slice A ns.length c) := (blk_cell hbox 0).trans rfl; have hcz1 : w1.cell? ⟨gb, 1, none⟩ = some (.int .i64 root) := (blk_cell hbox 1).trans rfl; clear HB; clear hb hbox hg)) | (go_at_call 23; go_loud (refine (BR.out _ HB1.out).mono ?_; rintro e w2 ⟨⟨Ay0, ny0, cy0, Ay1, ny1, cy1, rfl⟩, hb2⟩; have HB2 := Aside0.mk (below_step HB1.out hb2); clear hb2 hcz0 hcz1)) | ((with_reducible refine gate_dst (N := 3) rfl ?_); go_loud (refine box_event ?hg (N := 3) ?hd (cs := #[.slice none 0 0, .slice none 0 0]) (t := 47) ?hr ?_; (case hd => rfl); (case hg => rfl); (case hr => first | (go_simp; done) | (go_simp; rfl)); intro g3 hg w3 hbox hb; have HB3 := Aside0.mk (below_step HB2.out hb); have GE3 := Aside0.mk (show w.heap.size ≤ g3 by have := below_size HB2.out; omega); have hg3_0 : w3.cell? ⟨g3, 0, none⟩ = some (.slice none 0 0) := (blk_cell hbox 0).trans rfl; have fg3_0 := blk_frozen hbox 0; have hg3_1 : w3.cell? ⟨g3, 1, none⟩ = some (.slice none 0 0) := (blk_cell hbox 1).trans rfl; have fg3_1 := blk_frozen hbox 1; clear hb hbox hg)))
  go_ret
  exact ⟨rfl, below_set (below_set HB3.out GE3.out) GE3.out⟩

end Go.Proofs.Ytmgbfbpolmbnfaa.PFnExactKeysOf
