/- The reference's reading of a tree; no condition. -/
import Derived.Test.YtmgbfbpolmbnfaaQFnExactKeysOft4
namespace Go.Proofs.Ytmgbfbpolmbnfaa.PFnExactKeysOf
open Go.RowKit Go.Proofs.YtmgbfbpolmbnfaaW.PrintWords Go.Proofs.YtmgbfbpolmbnfaaW.PrintLast Go.Proofs.YtmgbfbpolmbnfaaW.PrintMore
set_option linter.unusedVariables false
set_option linter.unusedSimpArgs false
set_option maxRecDepth 100000

/-! #### l7Read: the model -/
theorem readL_none (g : Int → Option (S47 × Int)) (qs : List Int) (k : Int) (s : Nat) (h : readL g qs k s = none) : ∀ j, readL g qs k (s + j) = none
  | 0 => h
  | j + 1 => by
    rw [← Nat.add_assoc, readL, readL_none g qs k s h j]
    rfl
/-- an element whose cells say x, whatever changes outside S -/
def kF (S : Nat → Prop) (W0 : World) : Kd S47 where
  sz := 2
  E := []
  K := fun _ x cs => Kd.FK k47 W0 S x cs
  M := fun _ _ _ x cs => Kd.FK k47 W0 S x cs
  K_len := fun h => k47.K_len (Kd.FK_now h)
  K_one := fun h => k47.K_one (Kd.FK_now h)
  K_below := fun _ h => h
  K_of_M := fun h => h
  M_mono := fun _ h => h
  M_bound := fun h => h
  M_move := fun _ h => h
  M_lower := fun _ h => h
theorem kF_step {S : Nat → Prop} {W W1 : World} {e : Nat} {w : World} {base : Nat} {ok : Nat → Prop} {v : Value} {xs : List S47} (hm : ∀ k, S k → k < W.heap.size → W1.heap[k]? = W.heap[k]?) (h : (kF S W).R e w base ok v xs) : (kF S W1).R e w base ok v xs :=
  Kd.R_imp (d := kF S W) (d' := kF S W1) rfl (fun _ _ _ x cs hp => Kd.FK_step (d := k47) hp hm) h
theorem kF_below {S : Nat → Prop} {W W1 : World} {e : Nat} {w : World} {base : Nat} {ok : Nat → Prop} {v : Value} {xs : List S47} (hb : Below W.heap.size W W1) (h : (kF S W).R e w base ok v xs) : (kF S W1).R e w base ok v xs := kF_step (fun k _ hlt => hb.block k hlt) h
theorem kF_F {S : Nat → Prop} {W : World} {e base : Nat} {ok : Nat → Prop} {A : Option Addr} {n c : Nat} {xs : List S47} (h : (kF S W).R e W base ok (.slice A n c) xs) : Kd.F k47 W (fun k => S k ∨ ok k ∧ base ≤ k) A n xs := by
  have h1 : (kF S W).R e W base (fun k => ok k ∧ base ≤ k) (.slice A n c) xs := Kd.R_mono (Kd.R_bound h) (fun k hk => ⟨hk.1, hk.2.1⟩)
  intro W' hW
  have h2 := Kd.R_F h1 W' (fun k hk hlt => hW k (.inr hk) hlt)
  unfold Kd.C at h2 ⊢
  exact h2.imp_ (Below.refl _ _) (fun x cs hp => hp W' (fun k hk hlt => hW k (.inl hk) hlt))
theorem R_setlow {α : Type} {d : Kd α} {e : Nat} {w : World} {base : Nat} {v : Value} {xs : List α} (h : d.R e w base (fun _ => True) v xs) {g : Nat} (hg : g < base) (j : Nat) (u : Value) : d.R e (w.setCell ⟨g, j, none⟩ u) base (fun _ => True) v xs :=
  Kd.R_mono (Kd.R_far (p := ⟨g, j, none⟩) (Kd.R_mono (Kd.R_bound h) (fun k hk => (show k ≠ g by have := hk.2.1; omega))) (fun _ hk => hk) u) (fun _ _ => trivial)
def ReadD (r : Option (S47 × Int)) (S : Nat → Prop) (w' : World) (A0 : Option Addr) (n0 c0 : Nat) (A1 : Option Addr) (n1 c1 : Nat) (f : Int) (b : Bool) : Prop := (r = none ∧ b = false) ∨ ∃ x, r = some (x, f) ∧ b = true ∧ n0 = x.f0.length ∧ n1 = x.f1.length ∧ Kd.FK k47 w' S x [.slice A0 n0 c0, .slice A1 n1 c1]
def ReadOut (r : Option (S47 × Int)) (S : Nat → Prop) (e : Ending) (w' : World) : Prop := ∃ A0 n0 c0 A1 n1 c1 f b, e = .returned (.tuple #[.agg #[.slice A0 n0 c0, .slice A1 n1 c1], .int .i64 f, .bool b]) ∧ ReadD r S w' A0 n0 c0 A1 n1 c1 f b
theorem ReadD_step {r : Option (S47 × Int)} {S S' : Nat → Prop} {w w1 : World} {A0 : Option Addr} {n0 c0 : Nat} {A1 : Option Addr} {n1 c1 : Nat} {f : Int} {b : Bool} (h : ReadD r S w A0 n0 c0 A1 n1 c1 f b) (hb : Below w.heap.size w w1) (hS : ∀ k, S k → k < w.heap.size → S' k) : ReadD r S' w1 A0 n0 c0 A1 n1 c1 f b := by
  rcases h with h | ⟨x, h1, h2, h3, h4, h5⟩
  · exact .inl h
  · exact .inr ⟨x, h1, h2, h3, h4, Kd.FK_mono (Kd.FK_below (Kd.FK_bound h5) hb) (fun k hk => hS k hk.1 hk.2)⟩
theorem ReadD_set {r : Option (S47 × Int)} {S : Nat → Prop} {w : World} {A0 : Option Addr} {n0 c0 : Nat} {A1 : Option Addr} {n1 c1 : Nat} {f : Int} {b : Bool} (h : ReadD r S w A0 n0 c0 A1 n1 c1 f b) {g j : Nat} {u : Value} (hS : ∀ k, S k → k ≠ g) : ReadD r S (w.setCell ⟨g, j, none⟩ u) A0 n0 c0 A1 n1 c1 f b := by
  rcases h with h | ⟨x, h1, h2, h3, h4, h5⟩
  · exact .inl h
  · exact .inr ⟨x, h1, h2, h3, h4, Kd.FK_step h5 (fun k hk _ => Below.heap_setCell w ⟨g, j, none⟩ u k (hS k hk))⟩
theorem readL_rng (g : Int → Option (S47 × Int)) (n : Int) (hg : ∀ q y f, g q = some (y, f) → 0 ≤ f ∧ f < n) (qs : List Int) (k : Int) (hk : 0 ≤ k ∧ k < n) : ∀ (s : Nat) (xs : List S47) (f : Int), readL g qs k s = some (xs, f) → (0 ≤ f ∧ f < n)
  | 0, xs, f, h => by
    cases h
    exact hk
  | s + 1, xs, f, h => by
    rw [readL] at h
    cases h0 : readL g qs k s with
    | none => rw [h0] at h; cases h
    | some p =>
      rw [h0, Option.bind_some] at h
      by_cases hq : qs.getD (qs.length - (s + 1)) 0 = p.2 - 1
      · rw [if_pos hq] at h
        cases hr : g (qs.getD (qs.length - (s + 1)) 0) with
        | none => rw [hr] at h; cases h
        | some r =>
          rw [hr, Option.map_some] at h
          cases h
          exact hg _ r.1 r.2 hr
      · rw [if_neg hq] at h; cases h
theorem readF_rng (ns : List S73) : ∀ (m : Nat) (k : Int) (x : S47) (f : Int), readF ns m k = some (x, f) → 0 ≤ f ∧ f < (ns.length : Int)
  | 0, _, _, _, h => by cases h
  | m + 1, k, x, f, h => by
    rw [readF] at h
    by_cases hk : 0 ≤ k ∧ k < (ns.length : Int)
    · rw [if_pos hk] at h
      by_cases hl : (nodeAt ns k.toNat).f0 = true
      · rw [if_pos hl] at h
        by_cases hz : (nodeAt ns k.toNat).f2.length = 0
        · rw [if_pos hz] at h
          cases h
          exact hk
        · rw [if_neg hz] at h; cases h
      · rw [if_neg hl] at h
        by_cases hz : (nodeAt ns k.toNat).f2.length = (nodeAt ns k.toNat).f1.length + 1
        · rw [if_pos hz] at h
          cases hr : readL (readF ns m) (nodeAt ns k.toNat).f2 k (nodeAt ns k.toNat).f2.length with
          | none => rw [hr] at h; cases h
          | some p =>
            rw [hr, Option.map_some] at h
            cases h
            exact readL_rng _ _ (fun q y f h => readF_rng ns m q y f h) _ _ hk _ _ _ hr
        · rw [if_neg hz] at h; cases h
    · rw [if_neg hk] at h; cases h
theorem in_w (a b c : Int) (W : World) : Calls Try.prog 37 #[.int .i64 a, .int .i64 b, .int .i64 c] W fun e w' => e = .returned (.bool (decide (b ≤ a) && decide (a ≤ c))) ∧ Below W.heap.size W w' := by
  have h : spec_l1In.f a b c = some (decide (b ≤ a) && decide (a ≤ c)) := by
    unfold spec_l1In.f
    by_cases h : a ≥ b
    · rw [if_pos h, decide_eq_true (show b ≤ a from h), Bool.true_and]
    · rw [if_neg h, decide_eq_false (show ¬ b ≤ a from h), Bool.false_and]
  refine (spec_l1In.calls a b c _ W h).mono ?_
  rintro e w' ⟨rfl, nd, rfl⟩
  exact ⟨rfl, pw_below_drewN (Below.refl _ _) nd⟩
theorem info47 : (Try.prog.info? 47).map (fun i => (i.zero, i.size, i.bytes)) = some (some (.agg #[.slice none 0 0, .slice none 0 0]), 2, 48) := by kernel_rfl
theorem readL_stop (g : Int → Option (S47 × Int)) (qs : List Int) (k : Int) {s : Nat} (hs : s < qs.length) (h : readL g qs k (s + 1) = none) : readL g qs k qs.length = none := by
  have := readL_none g qs k (s + 1) h (qs.length - (s + 1))
  rw [show s + 1 + (qs.length - (s + 1)) = qs.length by omega] at this
  exact this
set_option maxHeartbeats 4000000 in
theorem l7read_walk (w0 : World) (A : Option Addr) (c : Nat) (ns : List S73) (root : Int) (hr : Kd.C k73 w0 A ns.length ns) (hc : ns.length ≤ c) (hn : ns.length < 1099511627776) (hsz : ∀ i, (nodeAt ns i).f1.length < 1099511627776 ∧ (nodeAt ns i).f2.length < 1099511627776) (m : Nat) : ∀ {w : World} (k : Int), m ≤ 20 → Below w0.heap.size w0 w → w0.heap.size ≤ w.heap.size → Calls Try.prog 36 #[.agg #[.slice A ns.length c, .int .i64 root], .int .i64 k, .int .i64 (21 - (m : Int))] w fun e w' => ReadOut (readF ns m k) (fun q => q < w0.heap.size ∨ w.heap.size ≤ q) e w' ∧ Below w.heap.size w w' := by
  have HR := Aside0.mk hr
  have HC := Aside0.mk hc
  have HN := Aside0.mk hn
  have HSZ := Aside0.mk hsz
  clear hr hc hn hsz
  induction m with
  | zero =>
    intro w k hm hb0 hs0
    have HB := Aside0.mk (Below.refl w.heap.size w)
    have hwl : wrap64 ((ns.length : Int) - 1) = (ns.length : Int) - 1 := by unfold wrap64; have := HN.out; omega
    have hdp2 : decide ((21 : Int) - ((0 : Nat) : Int) > 20) = true := by decide
    obtain ⟨dp, hdpe⟩ : ∃ dp, (21 : Int) - ((0 : Nat) : Int) = dp := ⟨_, rfl⟩
    rw [hdpe] at hdp2 ⊢
    have hdp : dp > 20 := of_decide_eq_true hdp2
    have HF := Aside0.mk (show readF ns 0 k = none from rfl)
    clear hb0 hs0 hm hdpe
    obtain ⟨bi, hbi⟩ : ∃ bi, (decide (0 ≤ k) && decide (k ≤ (ns.length : Int) - 1)) = bi := ⟨_, rfl⟩
    have HIN : Aside0 (∀ W, Calls Try.prog 37 #[.int .i64 k, .int .i64 0, .int .i64 ((ns.length : Int) - 1)] W fun e w' => e = .returned (.bool bi) ∧ Below W.heap.size W w') := ⟨fun W => by
      have := in_w k 0 ((ns.length : Int) - 1) W
      rw [hbi] at this
      exact this⟩
    clear hbi
    cases bi with
    | false =>
      go_enter Try.func36, Try.ntmps36
      go_wp2_with (first | ((with_reducible refine gate_dst (N := 3) rfl ?_); go_loud (refine box_event ?hg (N := 3) ?hd (cs := #[.slice A ns.length c, .int .i64 root]) (t := 29) ?hr ?_; (case hd => rfl); (case hg => rfl); (case hr => first | (go_simp; done) | (go_simp; rfl)); intro g3 hg w1 hbox hb; have HB1 := Aside0.mk (below_step HB.out hb); have BK3 := Aside0.mk hbox; have hg3_0 : w1.cell? ⟨g3, 0, none⟩ = some (.slice A ns.length c) := (blk_cell hbox 0).trans rfl; have hg3_1 : w1.cell? ⟨g3, 1, none⟩ = some (.int .i64 root) := (blk_cell hbox 1).trans rfl; clear hb hbox hg)) | ((with_reducible refine gate_dst (N := 6) rfl ?_); go_loud (refine box_event ?hg (N := 6) ?hd (cs := #[.slice none 0 0, .slice none 0 0]) (t := 47) ?hr ?_; (case hd => rfl); (case hg => rfl); (case hr => first | (go_simp; done) | (go_simp; rfl)); intro g6 hg w2 hbox hb; have HB2 := Aside0.mk (below_step HB1.out hb); have BK6 := Aside0.mk hbox; have GE6 := Aside0.mk (show w.heap.size ≤ g6 by have := below_size HB1.out; omega); have BK3' := Aside0.mk (blk_below BK3.out hb); clear hg3_0 hg3_1; have hg3_0 : w2.cell? ⟨g3, 0, none⟩ = some (.slice A ns.length c) := (blk_cell BK3'.out 0).trans rfl; have hg3_1 : w2.cell? ⟨g3, 1, none⟩ = some (.int .i64 root) := (blk_cell BK3'.out 1).trans rfl; have hg6_0 : w2.cell? ⟨g6, 0, none⟩ = some (.slice none 0 0) := (blk_cell hbox 0).trans rfl; have fg6_0 := blk_frozen hbox 0; have hg6_1 : w2.cell? ⟨g6, 1, none⟩ = some (.slice none 0 0) := (blk_cell hbox 1).trans rfl; have fg6_1 := blk_frozen hbox 1; have hne36 : g3 ≠ g6 := (by have := blk_lt BK3.out; omega); clear hb hbox hg)) | (go_at_call 37; refine (HIN.out _).mono ?_; rintro e w3 ⟨rfl, hb3⟩; have HB3 := Aside0.mk (below_step HB2.out hb3); have BK6' := Aside0.mk (blk_below BK6.out hb3); clear hg3_0 hg3_1 hg6_0 hg6_1 fg6_0 fg6_1; have hg6_0 : w3.cell? ⟨g6, 0, none⟩ = some (.slice none 0 0) := (blk_cell BK6'.out 0).trans rfl; have hg6_1 : w3.cell? ⟨g6, 1, none⟩ = some (.slice none 0 0) := (blk_cell BK6'.out 1).trans rfl; have fg6_0 := blk_frozen BK6'.out 0; have fg6_1 := blk_frozen BK6'.out 1; clear hb3))
      refine bodyPost_ret (results_ctt rfl _ _ g6 47 #[.slice none 0 0, .slice none 0 0] (0, 0) _ rfl (by refine blk_put (cs := #[.slice none 0 0, .slice none 0 0]) ?_ 1 _ rfl; refine blk_put (cs := #[.slice none 0 0, .slice none 0 0]) ?_ 0 _ rfl; exact BK6'.out) Try.underlying47 rfl (by kernel_rfl)) rfl ?_
      exact ⟨⟨_, _, _, _, _, _, _, _, rfl, .inl ⟨HF.out, rfl⟩⟩, below_set (below_set HB3.out GE6.out) GE6.out⟩
    | true =>
      go_enter Try.func36, Try.ntmps36
      go_wp2_with (first | ((with_reducible refine gate_dst (N := 3) rfl ?_); go_loud (refine box_event ?hg (N := 3) ?hd (cs := #[.slice A ns.length c, .int .i64 root]) (t := 29) ?hr ?_; (case hd => rfl); (case hg => rfl); (case hr => first | (go_simp; done) | (go_simp; rfl)); intro g3 hg w1 hbox hb; have HB1 := Aside0.mk (below_step HB.out hb); have BK3 := Aside0.mk hbox; have hg3_0 : w1.cell? ⟨g3, 0, none⟩ = some (.slice A ns.length c) := (blk_cell hbox 0).trans rfl; have hg3_1 : w1.cell? ⟨g3, 1, none⟩ = some (.int .i64 root) := (blk_cell hbox 1).trans rfl; clear hb hbox hg)) | ((with_reducible refine gate_dst (N := 6) rfl ?_); go_loud (refine box_event ?hg (N := 6) ?hd (cs := #[.slice none 0 0, .slice none 0 0]) (t := 47) ?hr ?_; (case hd => rfl); (case hg => rfl); (case hr => first | (go_simp; done) | (go_simp; rfl)); intro g6 hg w2 hbox hb; have HB2 := Aside0.mk (below_step HB1.out hb); have BK6 := Aside0.mk hbox; have GE6 := Aside0.mk (show w.heap.size ≤ g6 by have := below_size HB1.out; omega); have BK3' := Aside0.mk (blk_below BK3.out hb); clear hg3_0 hg3_1; have hg3_0 : w2.cell? ⟨g3, 0, none⟩ = some (.slice A ns.length c) := (blk_cell BK3'.out 0).trans rfl; have hg3_1 : w2.cell? ⟨g3, 1, none⟩ = some (.int .i64 root) := (blk_cell BK3'.out 1).trans rfl; have hg6_0 : w2.cell? ⟨g6, 0, none⟩ = some (.slice none 0 0) := (blk_cell hbox 0).trans rfl; have fg6_0 := blk_frozen hbox 0; have hg6_1 : w2.cell? ⟨g6, 1, none⟩ = some (.slice none 0 0) := (blk_cell hbox 1).trans rfl; have fg6_1 := blk_frozen hbox 1; have hne36 : g3 ≠ g6 := (by have := blk_lt BK3.out; omega); clear hb hbox hg)) | (go_at_call 37; refine (HIN.out _).mono ?_; rintro e w3 ⟨rfl, hb3⟩; have HB3 := Aside0.mk (below_step HB2.out hb3); have BK6' := Aside0.mk (blk_below BK6.out hb3); clear hg3_0 hg3_1 hg6_0 hg6_1 fg6_0 fg6_1; have hg6_0 : w3.cell? ⟨g6, 0, none⟩ = some (.slice none 0 0) := (blk_cell BK6'.out 0).trans rfl; have hg6_1 : w3.cell? ⟨g6, 1, none⟩ = some (.slice none 0 0) := (blk_cell BK6'.out 1).trans rfl; have fg6_0 := blk_frozen BK6'.out 0; have fg6_1 := blk_frozen BK6'.out 1; clear hb3))
      refine bodyPost_ret (results_ctt rfl _ _ g6 47 #[.slice none 0 0, .slice none 0 0] (0, 0) _ rfl (by refine blk_put (cs := #[.slice none 0 0, .slice none 0 0]) ?_ 1 _ rfl; refine blk_put (cs := #[.slice none 0 0, .slice none 0 0]) ?_ 0 _ rfl; exact BK6'.out) Try.underlying47 rfl (by kernel_rfl)) rfl ?_
      exact ⟨⟨_, _, _, _, _, _, _, _, rfl, .inl ⟨HF.out, rfl⟩⟩, below_set (below_set HB3.out GE6.out) GE6.out⟩
  | succ m ih =>
    intro w k hm hb0 hs0
    have HB := Aside0.mk (Below.refl w.heap.size w)
    have HB0 := Aside0.mk hb0
    have HS0 := Aside0.mk hs0
    have HM := Aside0.mk hm
    have hwl : wrap64 ((ns.length : Int) - 1) = (ns.length : Int) - 1 := by unfold wrap64; have := HN.out; omega
    have hdp : ¬ ((21 : Int) - ((m + 1 : Nat) : Int) > 20) := by omega
    have hdp2 : decide ((21 : Int) - ((m + 1 : Nat) : Int) > 20) = false := decide_eq_false hdp
    obtain ⟨dp, hdpe⟩ : ∃ dp, (21 : Int) - ((m + 1 : Nat) : Int) = dp := ⟨_, rfl⟩
    rw [hdpe] at hdp hdp2 ⊢
    have HDP := Aside0.mk hdpe
    clear hb0 hs0 hm hdpe
    by_cases hk : 0 ≤ k ∧ k < (ns.length : Int)
    case neg =>
      have HIN : Aside0 (∀ W, Calls Try.prog 37 #[.int .i64 k, .int .i64 0, .int .i64 ((ns.length : Int) - 1)] W fun e w' => e = .returned (.bool false) ∧ Below W.heap.size W w') := ⟨fun W => by
        have := in_w k 0 ((ns.length : Int) - 1) W
        rw [show (decide (0 ≤ k) && decide (k ≤ (ns.length : Int) - 1)) = false by
          rw [Bool.and_eq_false_iff, decide_eq_false_iff_not, decide_eq_false_iff_not]
          omega] at this
        exact this⟩
      have HF := Aside0.mk (show readF ns (m + 1) k = none by rw [readF, if_neg hk])
      clear hk
      go_enter Try.func36, Try.ntmps36
      go_wp2_with (first | ((with_reducible refine gate_dst (N := 3) rfl ?_); go_loud (refine box_event ?hg (N := 3) ?hd (cs := #[.slice A ns.length c, .int .i64 root]) (t := 29) ?hr ?_; (case hd => rfl); (case hg => rfl); (case hr => first | (go_simp; done) | (go_simp; rfl)); intro g3 hg w1 hbox hb; have HB1 := Aside0.mk (below_step HB.out hb); have BK3 := Aside0.mk hbox; have hg3_0 : w1.cell? ⟨g3, 0, none⟩ = some (.slice A ns.length c) := (blk_cell hbox 0).trans rfl; have hg3_1 : w1.cell? ⟨g3, 1, none⟩ = some (.int .i64 root) := (blk_cell hbox 1).trans rfl; clear hb hbox hg)) | ((with_reducible refine gate_dst (N := 6) rfl ?_); go_loud (refine box_event ?hg (N := 6) ?hd (cs := #[.slice none 0 0, .slice none 0 0]) (t := 47) ?hr ?_; (case hd => rfl); (case hg => rfl); (case hr => first | (go_simp; done) | (go_simp; rfl)); intro g6 hg w2 hbox hb; have HB2 := Aside0.mk (below_step HB1.out hb); have BK6 := Aside0.mk hbox; have GE6 := Aside0.mk (show w.heap.size ≤ g6 by have := below_size HB1.out; omega); have BK3' := Aside0.mk (blk_below BK3.out hb); clear hg3_0 hg3_1; have hg3_0 : w2.cell? ⟨g3, 0, none⟩ = some (.slice A ns.length c) := (blk_cell BK3'.out 0).trans rfl; have hg3_1 : w2.cell? ⟨g3, 1, none⟩ = some (.int .i64 root) := (blk_cell BK3'.out 1).trans rfl; have hg6_0 : w2.cell? ⟨g6, 0, none⟩ = some (.slice none 0 0) := (blk_cell hbox 0).trans rfl; have fg6_0 := blk_frozen hbox 0; have hg6_1 : w2.cell? ⟨g6, 1, none⟩ = some (.slice none 0 0) := (blk_cell hbox 1).trans rfl; have fg6_1 := blk_frozen hbox 1; have hne36 : g3 ≠ g6 := (by have := blk_lt BK3.out; omega); clear hb hbox hg)) | (go_at_call 37; refine (HIN.out _).mono ?_; rintro e w3 ⟨rfl, hb3⟩; have HB3 := Aside0.mk (below_step HB2.out hb3); have BK6' := Aside0.mk (blk_below BK6.out hb3); clear hg3_0 hg3_1 hg6_0 hg6_1 fg6_0 fg6_1; have hg6_0 : w3.cell? ⟨g6, 0, none⟩ = some (.slice none 0 0) := (blk_cell BK6'.out 0).trans rfl; have hg6_1 : w3.cell? ⟨g6, 1, none⟩ = some (.slice none 0 0) := (blk_cell BK6'.out 1).trans rfl; have fg6_0 := blk_frozen BK6'.out 0; have fg6_1 := blk_frozen BK6'.out 1; clear hb3))
      refine bodyPost_ret (results_ctt rfl _ _ g6 47 #[.slice none 0 0, .slice none 0 0] (0, 0) _ rfl (by refine blk_put (cs := #[.slice none 0 0, .slice none 0 0]) ?_ 1 _ rfl; refine blk_put (cs := #[.slice none 0 0, .slice none 0 0]) ?_ 0 _ rfl; exact BK6'.out) Try.underlying47 rfl (by kernel_rfl)) rfl ?_
      exact ⟨⟨_, _, _, _, _, _, _, _, rfl, .inl ⟨HF.out, rfl⟩⟩, below_set (below_set HB3.out GE6.out) GE6.out⟩
    case pos =>
      obtain ⟨kn, rfl⟩ : ∃ kn : Nat, k = (kn : Int) := ⟨k.toNat, by omega⟩
      have HIN : Aside0 (∀ W, Calls Try.prog 37 #[.int .i64 (kn : Int), .int .i64 0, .int .i64 ((ns.length : Int) - 1)] W fun e w' => e = .returned (.bool true) ∧ Below W.heap.size W w') := ⟨fun W => by
        have := in_w (kn : Int) 0 ((ns.length : Int) - 1) W
        rw [show (decide (0 ≤ (kn : Int)) && decide ((kn : Int) ≤ (ns.length : Int) - 1)) = true by
          rw [Bool.and_eq_true, decide_eq_true_iff, decide_eq_true_iff]
          omega] at this
        exact this⟩
      have pk : 0 ≤ (kn : Int) := hk.1
      have qk : (kn : Int) < (ns.length : Int) := hk.2
      obtain ⟨adn, A1, c1, A2, c2, en, hx0, hx1, hx2, hl1, hi1, hl2, hi2⟩ := at_T73 HR.out (kn : Int) pk qk
      cases en
      have hrd : rd_T73 ns (kn : Int) = nodeAt ns kn := by unfold rd_T73 nodeAt; rw [Int.toNat_natCast]
      have hsz := HSZ.out kn
      have hrf : readF ns (m + 1) (kn : Int) = if (nodeAt ns kn).f0 = true then (if (nodeAt ns kn).f2.length = 0 then some (⟨(nodeAt ns kn).f1, []⟩, (kn : Int)) else none) else if (nodeAt ns kn).f2.length = (nodeAt ns kn).f1.length + 1 then (readL (readF ns m) (nodeAt ns kn).f2 (kn : Int) (nodeAt ns kn).f2.length).map (fun p => (⟨(nodeAt ns kn).f1, p.1⟩, p.2)) else none := by rw [readF, if_pos hk, Int.toNat_natCast]
      obtain ⟨nd, hnd⟩ : ∃ nd, nodeAt ns kn = nd := ⟨_, rfl⟩
      rw [hrd, hnd] at hx0 hx1 hx2 hl1 hi1 hl2 hi2
      rw [hnd] at hsz hrf
      rw [Int.toNat_natCast] at hx0 hx1 hx2
      obtain ⟨lf, ks, qs⟩ := nd
      have SD : Aside0 (∀ W : World, Below w.heap.size w W → W.cell? (adn.add (kn * 3)) = some (.bool lf) ∧ W.cell? ⟨(adn.add (kn * 3)).block, (adn.add (kn * 3)).off + 1, none⟩ = some (.slice A1 ks.length c1) ∧ W.cell? ⟨(adn.add (kn * 3)).block, (adn.add (kn * 3)).off + 2, none⟩ = some (.slice A2 qs.length c2)) := ⟨fun W hb => by
        have h := below_then HB0.out HS0.out hb
        exact ⟨(h.cell (World.block_lt_of_cell? _ _ hx0)).trans hx0, (h.cell (World.block_lt_of_cell? _ _ hx1)).trans hx1, (h.cell (World.block_lt_of_cell? _ _ hx2)).trans hx2⟩⟩
      have KF : Aside0 (∀ W : World, Below w.heap.size w W → Kd.F (Kd.int .i64) W (fun q => q < w0.heap.size) A1 ks.length ks) := ⟨fun W hb => Kd.F_below (Kd.C_F (Kd.heap_int .i64) hi1) (below_then HB0.out HS0.out hb)⟩
      have HQ := Aside0.mk hi2
      have HL1 := Aside0.mk (show ks.length ≤ c1 from hl1)
      have HSQ := Aside0.mk (show ks.length < 1099511627776 ∧ qs.length < 1099511627776 from hsz)
      have HRF := Aside0.mk hrf
      clear hx0 hx1 hx2 hl1 hi1 hl2 hi2 hrd hnd hsz hrf hk
      by_cases hlf : lf = true
      · subst hlf
        have HRT := Aside0.mk (show readF ns (m + 1) (kn : Int) = if qs.length = 0 then some (⟨ks, []⟩, (kn : Int)) else none by rw [HRF.out, if_pos rfl])
        clear HRF
        obtain ⟨qb, hqb⟩ : ∃ qb, ((qs.length : Int) == 0) = qb := ⟨_, rfl⟩
        have HQB := Aside0.mk hqb
        clear hwl hqb
        have hqb := HQB.out
        have hwl : wrap64 ((ns.length : Int) - 1) = (ns.length : Int) - 1 := by unfold wrap64; have := HN.out; omega
        go_enter Try.func36, Try.ntmps36
        go_wp2_with (first | ((with_reducible refine gate_dst (N := 3) rfl ?_); go_loud (refine box_event ?hg (N := 3) ?hd (cs := #[.slice (some adn) ns.length c, .int .i64 root]) (t := 29) ?hr ?_; (case hd => rfl); (case hg => rfl); (case hr => first | (go_simp; done) | (go_simp; rfl)); intro g3 hg w1 hbox hb; have HB1 := Aside0.mk (below_step HB.out hb); have BK3 := Aside0.mk hbox; have h3a : w1.cell? ⟨g3, 0, none⟩ = some (.slice (some adn) ns.length c) := (blk_cell hbox 0).trans rfl; clear hb hbox hg)) | ((with_reducible refine gate_dst (N := 6) rfl ?_); go_loud (refine box_event ?hg (N := 6) ?hd (cs := #[.slice none 0 0, .slice none 0 0]) (t := 47) ?hr ?_; (case hd => rfl); (case hg => rfl); (case hr => first | (go_simp; done) | (go_simp; rfl)); intro g6 hg w2 hbox hb; have HB2 := Aside0.mk (below_step HB1.out hb); have BK6 := Aside0.mk hbox; have GE6 := Aside0.mk (show w1.heap.size ≤ g6 by omega); have LT6 := Aside0.mk (blk_lt hbox); clear h3a; have HB12 := Aside0.mk hb; have SBX : Aside0 (∀ W : World, Below w1.heap.size w1 W → W.cell? ⟨g3, 0, none⟩ = some (.slice (some adn) ns.length c) ∧ W.cell? ⟨g3, 1, none⟩ = some (.int .i64 root) ∧ W.cell? (adn.add (kn * 3)) = some (.bool true) ∧ W.cell? ⟨(adn.add (kn * 3)).block, (adn.add (kn * 3)).off + 1, none⟩ = some (.slice A1 ks.length c1) ∧ W.cell? ⟨(adn.add (kn * 3)).block, (adn.add (kn * 3)).off + 2, none⟩ = some (.slice A2 qs.length c2)) := ⟨fun W hb => ⟨(blk_cell (blk_below BK3.out hb) 0).trans rfl, (blk_cell (blk_below BK3.out hb) 1).trans rfl, SD.out W (below_weaken HB1.out (below_size HB1.out) hb)⟩⟩; have UP : Aside0 (∀ W : World, Below w2.heap.size w2 W → Below w1.heap.size w1 W) := ⟨fun W h => below_weaken HB12.out (below_size HB12.out) h⟩; obtain ⟨h3a, h3b, hn0, hn1, hn2⟩ := SBX.out w2 HB12.out; clear hb hbox hg)) | (go_at_call 37; refine (HIN.out _).mono ?_; rintro e w3 ⟨rfl, hb3⟩; have C3 := Aside0.mk hb3; clear h3a h3b hn0 hn1 hn2; obtain ⟨h3a, h3b, hn0, hn1, hn2⟩ := SBX.out w3 (UP.out _ hb3); clear hb3) | ((with_reducible refine gate_dst (N := 9) rfl ?_); go_loud (refine box_event ?hg (N := 9) ?hd (cs := #[.slice none 0 0, .slice none 0 0]) (t := 47) ?hr ?_; (case hd => rfl); (case hg => rfl); (case hr => first | (go_simp; done) | (go_simp; rfl)); intro g9 hg w4 hbox hb; have C4 := Aside0.mk (below_step C3.out hb); have BK9 := Aside0.mk hbox; have GE9 := Aside0.mk (show w2.heap.size ≤ g9 by have := below_size C3.out; omega); have hg9_0 : w4.cell? ⟨g9, 0, none⟩ = some (.slice none 0 0) := (blk_cell hbox 0).trans rfl; have fg9_0 := blk_frozen hbox 0; have hg9_1 : w4.cell? ⟨g9, 1, none⟩ = some (.slice none 0 0) := (blk_cell hbox 1).trans rfl; have fg9_1 := blk_frozen hbox 1; clear hb hbox hg)) | ((with_reducible refine gate_store (t := 47) (p := 9) rfl ?_); go_loud (refine store_event (t := 47) (p := 9) (v := ?vo) (w1 := ((w4.setCell ⟨g9, 0, none⟩ (.slice A1 ks.length c1)).setCell ⟨g9, 1, none⟩ (.slice none 0 0))) ?hg ?ho ?hn ?hr ?_; (case ho => rfl); (case hg => rfl); (case hn => rfl); (case hr => first | (go_simp; done) | (go_simp; rfl)); intro w5 hw; have C5 := Aside0.mk (show Below w2.heap.size w2 w5 by rw [hw]; exact below_set (below_set C4.out GE9.out) GE9.out); have BK9' := Aside0.mk (show w5.heap[g9]? = some (.cells #[.slice A1 ks.length c1, .slice none 0 0] 47 (0, 0)) by rw [hw]; refine blk_put (cs := #[.slice A1 ks.length c1, .slice none 0 0]) ?_ 1 _ rfl; refine blk_put (cs := #[.slice none 0 0, .slice none 0 0]) ?_ 0 _ rfl; exact BK9.out); clear h3a h3b hn0 hn1 hn2 hw; clear hg9_0 hg9_1 fg9_0 fg9_1; obtain ⟨h3a, h3b, hn0, hn1, hn2⟩ := SBX.out w5 (UP.out _ C5.out); have hg9_0 : w5.cell? ⟨g9, 0, none⟩ = some (.slice A1 ks.length c1) := (blk_cell BK9'.out 0).trans rfl; have fg9_0 := blk_frozen BK9'.out 0; have hg9_1 : w5.cell? ⟨g9, 1, none⟩ = some (.slice none 0 0) := (blk_cell BK9'.out 1).trans rfl; have fg9_1 := blk_frozen BK9'.out 1; have BK6' := Aside0.mk (blk_below BK6.out C5.out); have hg6_0 : w5.cell? ⟨g6, 0, none⟩ = some (.slice none 0 0) := (blk_cell BK6'.out 0).trans rfl; have fg6_0 := blk_frozen BK6'.out 0; have hg6_1 : w5.cell? ⟨g6, 1, none⟩ = some (.slice none 0 0) := (blk_cell BK6'.out 1).trans rfl; have fg6_1 := blk_frozen BK6'.out 1)))
        go_upto_region 5 with fail
        (try simp only [Act.put, List.setIfInBounds_toArray, List.set_cons_zero, List.set_cons_succ])
        have NE96 : Aside0 (g9 ≠ g6) := ⟨by have := GE9.out; have := LT6.out; omega⟩
        have hd : Below w2.heap.size w2 w5.drew := below_drew1 C5.out
        clear h3a h3b hn0 hn1 hn2 hg9_0 hg9_1 fg9_0 fg9_1
        refine start_ (n := 13) (S := fun w' => w'.cell? ⟨g9, 0, none⟩ = some (.slice A1 ks.length c1) ∧ w'.cell? ⟨g9, 1, none⟩ = some (.slice none 0 0) ∧ w'.cell? ⟨g3, 0, none⟩ = some (.slice (some adn) ns.length c) ∧ w'.cell? ⟨(adn.add (kn * 3)).block, (adn.add (kn * 3)).off + 2, none⟩ = some (.slice A2 qs.length c2)) (ds := []) #[false, false, false, false, false, false, false, false, false, false, false, false, false] (by kernel_rfl) rfl rfl ⟨(blk_cell (blk_drew BK9'.out) 0).trans rfl, (blk_cell (blk_drew BK9'.out) 1).trans rfl, (SBX.out _ (UP.out _ hd)).1, (SBX.out _ (UP.out _ hd)).2.2.2.2⟩ (fun hHeld => ?_)
        refine pure_ (i := 1) (N := some 42) (v := ?_) (a' := ?_) #[false, true, false, false, false, false, false, false, false, false, false, false, false] rfl rfl (by kernel_rfl) (fun _ _ _ h => h) (Or.inl ⟨by rfl, ?_⟩) ?_ ?_
        rotate_left
        · intro w'
          go_simp
          with_reducible rfl
        rotate_left
        · simp only [Act.put, List.setIfInBounds_toArray, List.set_cons_zero, List.set_cons_succ, i64_w, i32_w]
          rfl
        refine pure_ (i := 2) (N := some 43) (v := ?_) (a' := ?_) #[false, true, true, false, false, false, false, false, false, false, false, false, false] rfl rfl (by kernel_rfl) (fun _ _ _ h => h) (Or.inl ⟨by rfl, ?_⟩) ?_ ?_
        rotate_left
        · intro w'
          go_simp
          with_reducible rfl
        rotate_left
        · simp only [Act.put, List.setIfInBounds_toArray, List.set_cons_zero, List.set_cons_succ, i64_w, i32_w]
          rfl
        refine pure_ (i := 4) (N := some 45) (v := ?_) (a' := ?_) #[false, true, true, false, true, false, false, false, false, false, false, false, false] rfl rfl (by kernel_rfl) (fun _ _ _ h => h) (Or.inl ⟨by rfl, ?_⟩) ?_ ?_
        rotate_left
        · intro w'
          go_simp
          with_reducible rfl
        rotate_left
        · simp only [Act.put, List.setIfInBounds_toArray, List.set_cons_zero, List.set_cons_succ, i64_w, i32_w]
          rfl
        refine take_ (i := 0) (N := some 41) (v := ?_) (a' := ?_) #[true, true, true, false, true, false, false, false, false, false, false, false, false] rfl rfl (by kernel_rfl) (fun _ _ _ h => h) (Or.inl ⟨by rfl, ?_⟩) hHeld ?_ ?_
        rotate_left
        · rintro w' ⟨s0, s1, s2, s3⟩
          go_simp
          with_reducible rfl
        rotate_left
        · simp only [Act.put, List.setIfInBounds_toArray, List.set_cons_zero, List.set_cons_succ, i64_w, i32_w]
          rfl
        refine take_ (i := 3) (N := some 44) (v := ?_) (a' := ?_) #[true, true, true, true, true, false, false, false, false, false, false, false, false] rfl rfl (by kernel_rfl) (fun _ _ _ h => h) (Or.inl ⟨by rfl, ?_⟩) hHeld ?_ ?_
        rotate_left
        · rintro w' ⟨s0, s1, s2, s3⟩
          go_simp
          with_reducible rfl
        rotate_left
        · simp only [Act.put, List.setIfInBounds_toArray, List.set_cons_zero, List.set_cons_succ, i64_w, i32_w]
          rfl
        refine pure_ (i := 5) (N := some 46) (v := ?_) (a' := ?_) #[true, true, true, true, true, true, false, false, false, false, false, false, false] rfl rfl (by kernel_rfl) (fun _ _ _ h => h) (Or.inl ⟨by rfl, ?_⟩) ?_ ?_
        rotate_left
        · intro w'
          go_simp
          with_reducible rfl
        rotate_left
        · simp only [Act.put, List.setIfInBounds_toArray, List.set_cons_zero, List.set_cons_succ, i64_w, i32_w]
          rfl
        refine pure_ (i := 6) (N := some 47) (v := ?_) (a' := ?_) #[true, true, true, true, true, true, true, false, false, false, false, false, false] rfl rfl (by kernel_rfl) (fun _ _ _ h => h) (Or.inl ⟨by rfl, ?_⟩) ?_ ?_
        rotate_left
        · intro w'
          go_simp
          with_reducible rfl
        rotate_left
        · simp only [Act.put, List.setIfInBounds_toArray, List.set_cons_zero, List.set_cons_succ, i64_w, i32_w]
          rfl
        refine take_ (i := 7) (N := some 48) (v := ?_) (a' := ?_) #[true, true, true, true, true, true, true, true, false, false, false, false, false] rfl rfl (by kernel_rfl) (fun _ _ _ h => h) (Or.inl ⟨by rfl, ?_⟩) hHeld ?_ ?_
        rotate_left
        · rintro w' ⟨s0, s1, s2, s3⟩
          go_simp
          with_reducible rfl
        rotate_left
        · simp only [Act.put, List.setIfInBounds_toArray, List.set_cons_zero, List.set_cons_succ, i64_w, i32_w]
          rfl
        refine pure_ (i := 8) (N := some 49) (v := ?_) (a' := ?_) #[true, true, true, true, true, true, true, true, true, false, false, false, false] rfl rfl (by kernel_rfl) (fun _ _ _ h => h) (Or.inl ⟨by rfl, ?_⟩) ?_ ?_
        rotate_left
        · intro w'
          go_simp
          with_reducible rfl
        rotate_left
        · simp only [Act.put, List.setIfInBounds_toArray, List.set_cons_zero, List.set_cons_succ, i64_w, i32_w]
          rfl
        refine pure_ (i := 9) (N := some 50) (v := ?_) (a' := ?_) #[true, true, true, true, true, true, true, true, true, true, false, false, false] rfl rfl (by kernel_rfl) (fun _ _ _ h => h) (Or.inl ⟨by rfl, ?_⟩) ?_ ?_
        rotate_left
        · intro w'
          go_simp
          with_reducible rfl
        rotate_left
        · simp only [Act.put, List.setIfInBounds_toArray, List.set_cons_zero, List.set_cons_succ, i64_w, i32_w]
          rfl
        refine one_ (i := 10) (N := none) #[true, true, true, true, true, true, true, true, true, true, true, false, false] rfl rfl (by kernel_rfl) (by decide) (fun K hK => ?_)
        refine skip_ (w1 := ?_) (by rfl) rfl ?_ ?_
        rotate_left
        · go_simp
          rfl
        have BKr := Aside0.mk (blk_put (cs' := #[.slice A1 ks.length c1, .slice none 0 0]) (blk_put (cs' := #[.slice A1 ks.length c1, .slice none 0 0]) (blk_drew BK6'.out) 0 (.slice A1 ks.length c1) rfl) 1 (.slice none 0 0) rfl)
        have HBr := Aside0.mk (below_set (j := 1) (v := .slice none 0 0) (below_set (j := 0) (v := .slice A1 ks.length c1) (UP.out _ hd) GE6.out) GE6.out)
        refine hK.out _ _ ⟨(blk_cell (blk_far (blk_far (blk_drew BK9'.out) NE96.out _) NE96.out _) 0).trans rfl, (blk_cell (blk_far (blk_far (blk_drew BK9'.out) NE96.out _) NE96.out _) 1).trans rfl, (SBX.out _ (HBr.out)).1, (SBX.out _ (HBr.out)).2.2.2.2⟩ (fun hHeld => ?_)
        clear hK K
        refine pure_ (i := 11) (N := some 7) (v := ?_) (a' := ?_) #[true, true, true, true, true, true, true, true, true, true, true, true, false] rfl rfl (by kernel_rfl) (fun _ _ _ h => h) (Or.inl ⟨by rfl, ?_⟩) ?_ ?_
        rotate_left
        · intro w'
          go_simp
          with_reducible rfl
        rotate_left
        · simp only [Act.put, List.setIfInBounds_toArray, List.set_cons_zero, List.set_cons_succ, i64_w, i32_w]
          rfl
        refine pure_ (i := 12) (N := some 8) (v := ?_) (a' := ?_) #[true, true, true, true, true, true, true, true, true, true, true, true, true] rfl rfl (by kernel_rfl) (fun _ _ _ h => h) (Or.inl ⟨by rfl, ?_⟩) ?_ ?_
        rotate_left
        · intro w'
          go_simp
          with_reducible rfl
        rotate_left
        · simp only [Act.put, List.setIfInBounds_toArray, List.set_cons_zero, List.set_cons_succ, i64_w, i32_w]
          rfl
        refine done_ (by kernel_rfl) ?_
        go_wp2
        refine bodyPost_ret (results_ctt rfl _ _ g6 47 #[.slice A1 ks.length c1, .slice none 0 0] (0, 0) _ rfl BKr.out Try.underlying47 rfl (by kernel_rfl)) rfl ?_
        have HBw := below_weaken HB1.out (below_size HB1.out) HBr.out
        refine ⟨⟨_, _, _, _, _, _, _, _, rfl, ?_⟩, HBw⟩
        have hrf := HRT.out
        by_cases hz : qs.length = 0
        · rw [if_pos hz] at hrf
          refine .inr ⟨_, hrf, ?_, rfl, rfl, ?_⟩
          · rw [← HQB.out, hz]; rfl
          · exact k47_mkF _ _ (⟨ks, []⟩ : S47) HL1.out (Kd.F_mono (KF.out _ HBw) (fun _ h => .inl h)) (Nat.le_refl _) (Kd.F_nil k47 _ _)
        · rw [if_neg hz] at hrf
          refine .inl ⟨hrf, ?_⟩
          rw [← HQB.out, Bool.eq_false_iff]
          intro h
          have := eq_of_beq h
          omega
      · have hlf2 : lf = false := Bool.eq_false_iff.mpr hlf
        subst hlf2
        have HRT := Aside0.mk (show readF ns (m + 1) (kn : Int) = if qs.length = ks.length + 1 then (readL (readF ns m) qs (kn : Int) qs.length).map (fun p => (⟨ks, p.1⟩, p.2)) else none by rw [HRF.out, if_neg (fun h => by cases h)])
        clear HRF hlf
        by_cases hql : qs.length = ks.length + 1
        case neg =>
          have hwk : wrap64 ((ks.length : Int) + 1) = (ks.length : Int) + 1 := by unfold wrap64; have := HSQ.out.1; omega
          have hne : ((qs.length : Int) != (ks.length : Int) + 1) = true := bne_iff_ne.mpr (by omega)
          have HRN := Aside0.mk (show readF ns (m + 1) (kn : Int) = none by rw [HRT.out, if_neg hql])
          clear hql HRT
          go_enter Try.func36, Try.ntmps36
          go_wp2_with (first | ((with_reducible refine gate_dst (N := 3) rfl ?_); go_loud (refine box_event ?hg (N := 3) ?hd (cs := #[.slice (some adn) ns.length c, .int .i64 root]) (t := 29) ?hr ?_; (case hd => rfl); (case hg => rfl); (case hr => first | (go_simp; done) | (go_simp; rfl)); intro g3 hg w1 hbox hb; have HB1 := Aside0.mk (below_step HB.out hb); have BK3 := Aside0.mk hbox; have h3a : w1.cell? ⟨g3, 0, none⟩ = some (.slice (some adn) ns.length c) := (blk_cell hbox 0).trans rfl; clear hb hbox hg)) | ((with_reducible refine gate_dst (N := 6) rfl ?_); go_loud (refine box_event ?hg (N := 6) ?hd (cs := #[.slice none 0 0, .slice none 0 0]) (t := 47) ?hr ?_; (case hd => rfl); (case hg => rfl); (case hr => first | (go_simp; done) | (go_simp; rfl)); intro g6 hg w2 hbox hb; have HB2 := Aside0.mk (below_step HB1.out hb); have BK6 := Aside0.mk hbox; have GE6 := Aside0.mk (show w1.heap.size ≤ g6 by omega); have LT6 := Aside0.mk (blk_lt hbox); clear h3a; have HB12 := Aside0.mk hb; have SBX : Aside0 (∀ W : World, Below w1.heap.size w1 W → W.cell? ⟨g3, 0, none⟩ = some (.slice (some adn) ns.length c) ∧ W.cell? ⟨g3, 1, none⟩ = some (.int .i64 root) ∧ W.cell? (adn.add (kn * 3)) = some (.bool false) ∧ W.cell? ⟨(adn.add (kn * 3)).block, (adn.add (kn * 3)).off + 1, none⟩ = some (.slice A1 ks.length c1) ∧ W.cell? ⟨(adn.add (kn * 3)).block, (adn.add (kn * 3)).off + 2, none⟩ = some (.slice A2 qs.length c2)) := ⟨fun W hb => ⟨(blk_cell (blk_below BK3.out hb) 0).trans rfl, (blk_cell (blk_below BK3.out hb) 1).trans rfl, SD.out W (below_weaken HB1.out (below_size HB1.out) hb)⟩⟩; have UP : Aside0 (∀ W : World, Below w2.heap.size w2 W → Below w1.heap.size w1 W) := ⟨fun W h => below_weaken HB12.out (below_size HB12.out) h⟩; obtain ⟨h3a, h3b, hn0, hn1, hn2⟩ := SBX.out w2 HB12.out; clear hb hbox hg)) | (go_at_call 37; refine (HIN.out _).mono ?_; rintro e w3 ⟨rfl, hb3⟩; have C3 := Aside0.mk hb3; clear h3a h3b hn0 hn1 hn2; obtain ⟨h3a, h3b, hn0, hn1, hn2⟩ := SBX.out w3 (UP.out _ hb3); clear hb3) | ((with_reducible refine gate_dst (N := 9) rfl ?_); go_loud (refine box_event ?hg (N := 9) ?hd (cs := #[.slice none 0 0, .slice none 0 0]) (t := 47) ?hr ?_; (case hd => rfl); (case hg => rfl); (case hr => first | (go_simp; done) | (go_simp; rfl)); intro g9 hg w4 hbox hb; have C4 := Aside0.mk (below_step C3.out hb); have BK9 := Aside0.mk hbox; have GE9 := Aside0.mk (show w2.heap.size ≤ g9 by have := below_size C3.out; omega); have hg9_0 : w4.cell? ⟨g9, 0, none⟩ = some (.slice none 0 0) := (blk_cell hbox 0).trans rfl; have fg9_0 := blk_frozen hbox 0; have hg9_1 : w4.cell? ⟨g9, 1, none⟩ = some (.slice none 0 0) := (blk_cell hbox 1).trans rfl; have fg9_1 := blk_frozen hbox 1; clear hb hbox hg)) | ((with_reducible refine gate_store (t := 47) (p := 9) rfl ?_); go_loud (refine store_event (t := 47) (p := 9) (v := ?vo) (w1 := ((w4.setCell ⟨g9, 0, none⟩ (.slice A1 ks.length c1)).setCell ⟨g9, 1, none⟩ (.slice none 0 0))) ?hg ?ho ?hn ?hr ?_; (case ho => rfl); (case hg => rfl); (case hn => rfl); (case hr => first | (go_simp; done) | (go_simp; rfl)); intro w5 hw; have C5 := Aside0.mk (show Below w2.heap.size w2 w5 by rw [hw]; exact below_set (below_set C4.out GE9.out) GE9.out); have BK9' := Aside0.mk (show w5.heap[g9]? = some (.cells #[.slice A1 ks.length c1, .slice none 0 0] 47 (0, 0)) by rw [hw]; refine blk_put (cs := #[.slice A1 ks.length c1, .slice none 0 0]) ?_ 1 _ rfl; refine blk_put (cs := #[.slice none 0 0, .slice none 0 0]) ?_ 0 _ rfl; exact BK9.out); clear h3a h3b hn0 hn1 hn2 hw; clear hg9_0 hg9_1 fg9_0 fg9_1; obtain ⟨h3a, h3b, hn0, hn1, hn2⟩ := SBX.out w5 (UP.out _ C5.out); have hg9_0 : w5.cell? ⟨g9, 0, none⟩ = some (.slice A1 ks.length c1) := (blk_cell BK9'.out 0).trans rfl; have fg9_0 := blk_frozen BK9'.out 0; have hg9_1 : w5.cell? ⟨g9, 1, none⟩ = some (.slice none 0 0) := (blk_cell BK9'.out 1).trans rfl; have fg9_1 := blk_frozen BK9'.out 1; have BK6' := Aside0.mk (blk_below BK6.out C5.out); have hg6_0 : w5.cell? ⟨g6, 0, none⟩ = some (.slice none 0 0) := (blk_cell BK6'.out 0).trans rfl; have fg6_0 := blk_frozen BK6'.out 0; have hg6_1 : w5.cell? ⟨g6, 1, none⟩ = some (.slice none 0 0) := (blk_cell BK6'.out 1).trans rfl; have fg6_1 := blk_frozen BK6'.out 1)))
          refine bodyPost_ret (results_ctt rfl _ _ g6 47 #[.slice none 0 0, .slice none 0 0] (0, 0) _ rfl (by refine blk_put (cs := #[.slice none 0 0, .slice none 0 0]) ?_ 1 _ rfl; refine blk_put (cs := #[.slice none 0 0, .slice none 0 0]) ?_ 0 _ rfl; exact BK6'.out) Try.underlying47 rfl (by kernel_rfl)) rfl ?_
          exact ⟨⟨_, _, _, _, _, _, _, _, rfl, .inl ⟨HRN.out, rfl⟩⟩, below_weaken HB1.out (below_size HB1.out) (below_set (below_set (UP.out _ C5.out) GE6.out) GE6.out)⟩
        case pos =>
          have hwk : wrap64 ((ks.length : Int) + 1) = (ks.length : Int) + 1 := by unfold wrap64; have := HSQ.out.1; omega
          have hne : ((qs.length : Int) != (ks.length : Int) + 1) = false := bne_eq_false_iff_eq.mpr (by omega)
          have hwq : wrap64 ((qs.length : Int) - 1) = (qs.length : Int) - 1 := by unfold wrap64; have := HSQ.out.2; omega
          have HRN := Aside0.mk (show readF ns (m + 1) (kn : Int) = (readL (readF ns m) qs (kn : Int) qs.length).map (fun p => (⟨ks, p.1⟩, p.2)) by rw [HRT.out, if_pos hql])
          have HQL := Aside0.mk hql
          clear hql HRT
          go_enter Try.func36, Try.ntmps36
          go_wp2_with (first | ((with_reducible refine gate_dst (N := 3) rfl ?_); go_loud (refine box_event ?hg (N := 3) ?hd (cs := #[.slice (some adn) ns.length c, .int .i64 root]) (t := 29) ?hr ?_; (case hd => rfl); (case hg => rfl); (case hr => first | (go_simp; done) | (go_simp; rfl)); intro g3 hg w1 hbox hb; have HB1 := Aside0.mk (below_step HB.out hb); have BK3 := Aside0.mk hbox; have h3a : w1.cell? ⟨g3, 0, none⟩ = some (.slice (some adn) ns.length c) := (blk_cell hbox 0).trans rfl; clear hb hbox hg)) | ((with_reducible refine gate_dst (N := 6) rfl ?_); go_loud (refine box_event ?hg (N := 6) ?hd (cs := #[.slice none 0 0, .slice none 0 0]) (t := 47) ?hr ?_; (case hd => rfl); (case hg => rfl); (case hr => first | (go_simp; done) | (go_simp; rfl)); intro g6 hg w2 hbox hb; have HB2 := Aside0.mk (below_step HB1.out hb); have BK6 := Aside0.mk hbox; have GE6 := Aside0.mk (show w1.heap.size ≤ g6 by omega); have LT6 := Aside0.mk (blk_lt hbox); clear h3a; have HB12 := Aside0.mk hb; have SBX : Aside0 (∀ W : World, Below w1.heap.size w1 W → W.cell? ⟨g3, 0, none⟩ = some (.slice (some adn) ns.length c) ∧ W.cell? ⟨g3, 1, none⟩ = some (.int .i64 root) ∧ W.cell? (adn.add (kn * 3)) = some (.bool false) ∧ W.cell? ⟨(adn.add (kn * 3)).block, (adn.add (kn * 3)).off + 1, none⟩ = some (.slice A1 ks.length c1) ∧ W.cell? ⟨(adn.add (kn * 3)).block, (adn.add (kn * 3)).off + 2, none⟩ = some (.slice A2 qs.length c2)) := ⟨fun W hb => ⟨(blk_cell (blk_below BK3.out hb) 0).trans rfl, (blk_cell (blk_below BK3.out hb) 1).trans rfl, SD.out W (below_weaken HB1.out (below_size HB1.out) hb)⟩⟩; have UP : Aside0 (∀ W : World, Below w2.heap.size w2 W → Below w1.heap.size w1 W) := ⟨fun W h => below_weaken HB12.out (below_size HB12.out) h⟩; obtain ⟨h3a, h3b, hn0, hn1, hn2⟩ := SBX.out w2 HB12.out; clear hb hbox hg)) | (go_at_call 37; refine (HIN.out _).mono ?_; rintro e w3 ⟨rfl, hb3⟩; have C3 := Aside0.mk hb3; clear h3a h3b hn0 hn1 hn2; obtain ⟨h3a, h3b, hn0, hn1, hn2⟩ := SBX.out w3 (UP.out _ hb3); clear hb3) | ((with_reducible refine gate_dst (N := 9) rfl ?_); go_loud (refine box_event ?hg (N := 9) ?hd (cs := #[.slice none 0 0, .slice none 0 0]) (t := 47) ?hr ?_; (case hd => rfl); (case hg => rfl); (case hr => first | (go_simp; done) | (go_simp; rfl)); intro g9 hg w4 hbox hb; have C4 := Aside0.mk (below_step C3.out hb); have BK9 := Aside0.mk hbox; have GE9 := Aside0.mk (show w2.heap.size ≤ g9 by have := below_size C3.out; omega); have hg9_0 : w4.cell? ⟨g9, 0, none⟩ = some (.slice none 0 0) := (blk_cell hbox 0).trans rfl; have fg9_0 := blk_frozen hbox 0; have hg9_1 : w4.cell? ⟨g9, 1, none⟩ = some (.slice none 0 0) := (blk_cell hbox 1).trans rfl; have fg9_1 := blk_frozen hbox 1; clear hb hbox hg)) | ((with_reducible refine gate_store (t := 47) (p := 9) rfl ?_); go_loud (refine store_event (t := 47) (p := 9) (v := ?vo) (w1 := ((w4.setCell ⟨g9, 0, none⟩ (.slice A1 ks.length c1)).setCell ⟨g9, 1, none⟩ (.slice none 0 0))) ?hg ?ho ?hn ?hr ?_; (case ho => rfl); (case hg => rfl); (case hn => rfl); (case hr => first | (go_simp; done) | (go_simp; rfl)); intro w5 hw; have C5 := Aside0.mk (show Below w2.heap.size w2 w5 by rw [hw]; exact below_set (below_set C4.out GE9.out) GE9.out); have BK9' := Aside0.mk (show w5.heap[g9]? = some (.cells #[.slice A1 ks.length c1, .slice none 0 0] 47 (0, 0)) by rw [hw]; refine blk_put (cs := #[.slice A1 ks.length c1, .slice none 0 0]) ?_ 1 _ rfl; refine blk_put (cs := #[.slice none 0 0, .slice none 0 0]) ?_ 0 _ rfl; exact BK9.out); clear h3a h3b hn0 hn1 hn2 hw; clear hg9_0 hg9_1 fg9_0 fg9_1; obtain ⟨h3a, h3b, hn0, hn1, hn2⟩ := SBX.out w5 (UP.out _ C5.out); have hg9_0 : w5.cell? ⟨g9, 0, none⟩ = some (.slice A1 ks.length c1) := (blk_cell BK9'.out 0).trans rfl; have fg9_0 := blk_frozen BK9'.out 0; have hg9_1 : w5.cell? ⟨g9, 1, none⟩ = some (.slice none 0 0) := (blk_cell BK9'.out 1).trans rfl; have fg9_1 := blk_frozen BK9'.out 1; have BK6' := Aside0.mk (blk_below BK6.out C5.out); have hg6_0 : w5.cell? ⟨g6, 0, none⟩ = some (.slice none 0 0) := (blk_cell BK6'.out 0).trans rfl; have fg6_0 := blk_frozen BK6'.out 0; have hg6_1 : w5.cell? ⟨g6, 1, none⟩ = some (.slice none 0 0) := (blk_cell BK6'.out 1).trans rfl; have fg6_1 := blk_frozen BK6'.out 1)))
          clear h3a h3b hn0 hn1 hn2 hg9_0 hg9_1 fg9_0 fg9_1 hg6_0 hg6_1 fg6_0 fg6_1
          have UP0 : Aside0 (∀ W : World, Below w2.heap.size w2 W → Below w.heap.size w W) := ⟨fun W h => below_weaken HB2.out (below_size HB2.out) h⟩
          have HI0 : Aside0 ((kF (fun q => q < w0.heap.size ∨ g9 < q) w5).R 47 w5 (g9 + 1) (fun _ => True) (.slice none 0 0) []) := ⟨Kd.R_nil _ 47 _ _ _⟩
          go_loopg [11, 12] qs.length (fun kq v11 v12 w' => ∃ (s : Nat) (xs : List S47) (f iz : Int) (vq : Value), v11 = .int .i64 f ∧ v12 = .int .i64 iz ∧ s ≤ qs.length ∧ qs.length - s ≤ kq ∧ Aside0 (iz = (qs.length : Int) - 1 - (s : Int)) ∧ Aside0 (readL (readF ns m) qs (kn : Int) s = some (xs, f)) ∧ Aside0 (0 ≤ f ∧ f < 1099511627776) ∧ Aside0 (xs.length = s) ∧ Aside0 (w'.heap[g9]? = some (.cells #[.slice A1 ks.length c1, vq] 47 (0, 0))) ∧ Aside0 ((kF (fun q => q < w0.heap.size ∨ g9 < q) w').R 47 w' (g9 + 1) (fun _ => True) vq xs) ∧ Aside0 (Below w2.heap.size w2 w'))
          case atStart => exact ⟨0, [], (kn : Int), (qs.length : Int) - 1, _, rfl, (by first | rfl | (rw [hwq])), Nat.zero_le _, Nat.le_of_eq (Nat.sub_zero _), ⟨by simp⟩, ⟨rfl⟩, ⟨by have := HN.out; omega⟩, ⟨rfl⟩, BK9', HI0, C5⟩
          case round =>
            clear HI0 BK9' BK6' C5 BK9 C4 C3 hwk hwq
            obtain ⟨s, xs, f, iz, vq, rfl, rfl, hsn, hsk, HIZ, HRL, HFB, HXL, BK9, HV, HB5⟩ := hrel
            by_cases hlt : s < qs.length
            · obtain ⟨ix, hix⟩ : ∃ ix : Nat, ix = qs.length - (s + 1) := ⟨_, rfl⟩
              obtain rfl : iz = (ix : Int) := by have := HIZ.out; omega
              have pix : 0 ≤ (ix : Int) := Int.natCast_nonneg ix
              have qix : (ix : Int) < (qs.length : Int) := by omega
              have hge : decide ((ix : Int) ≥ 0) = true := decide_eq_true pix
              obtain ⟨adq, eq, hxq0⟩ := Kd.at_int HQ.out (ix : Int) pix qix
              cases eq
              rw [rd_get, Int.toNat_natCast] at hxq0
              obtain ⟨q, hq⟩ : ∃ q, qs.getD ix 0 = q := ⟨_, rfl⟩
              rw [hq] at hxq0
              have HXQ : Aside0 (∀ W : World, Below w2.heap.size w2 W → W.cell? (adq.add ix) = some (.int .i64 q)) := ⟨fun W h => by
                have h2 := below_then HB0.out HS0.out (UP0.out W h)
                exact (h2.cell (World.block_lt_of_cell? _ _ hxq0)).trans hxq0⟩
              have hxq := HXQ.out _ HB5.out
              have HSTEP : Aside0 (readL (readF ns m) qs (kn : Int) (s + 1) = if q = f - 1 then (readF ns m q).map fun r => (r.1 :: xs, r.2) else none) := ⟨by rw [readL, HRL.out, Option.bind_some, ← hix, hq]⟩
              have hwf : wrap64 (f - 1) = f - 1 := by unfold wrap64; have := HFB.out; omega
              have HLT := Aside0.mk hlt
              have HME := Aside0.mk (meas_dec hsk hlt)
              have HIX := Aside0.mk hix
              have BK6 := Aside0.mk (blk_below BK6.out HB5.out)
              clear hxq0 hq hlt hsk hsn hix
              by_cases hqf : q = f - 1
              case neg =>
                have hqb : (q != f - 1) = true := bne_iff_ne.mpr hqf
                have HRN2 := Aside0.mk (show readF ns (m + 1) (kn : Int) = none by rw [HRN.out, readL_stop _ _ _ HLT.out (by rw [HSTEP.out, if_neg hqf])]; rfl)
                have hg6_0 : wr.cell? ⟨g6, 0, none⟩ = some (.slice none 0 0) := (blk_cell BK6.out 0).trans rfl
                have hg6_1 : wr.cell? ⟨g6, 1, none⟩ = some (.slice none 0 0) := (blk_cell BK6.out 1).trans rfl
                have fg6_0 := blk_frozen BK6.out 0
                have fg6_1 := blk_frozen BK6.out 1
                clear hqf
                go_wp2
                refine bodyPost_ret (results_ctt rfl _ _ g6 47 #[.slice none 0 0, .slice none 0 0] (0, 0) _ rfl (by refine blk_put (cs := #[.slice none 0 0, .slice none 0 0]) ?_ 1 _ rfl; refine blk_put (cs := #[.slice none 0 0, .slice none 0 0]) ?_ 0 _ rfl; exact BK6.out) Try.underlying47 rfl (by kernel_rfl)) rfl ?_
                exact ⟨⟨_, _, _, _, _, _, _, _, rfl, .inl ⟨HRN2.out, rfl⟩⟩, below_weaken HB1.out (below_size HB1.out) (below_set (below_set (UP.out _ HB5.out) GE6.out) GE6.out)⟩
              case pos =>
                have hqb : (q != f - 1) = false := bne_eq_false_iff_eq.mpr hqf
                have hdw : wrap64 (dp + 1) = 21 - (m : Int) := by unfold wrap64; have := HDP.out; have := HM.out; omega
                have CALL : Aside0 (∀ W : World, Below w2.heap.size w2 W → Calls Try.prog 36 #[.agg #[.slice (some adn) ns.length c, .int .i64 root], .int .i64 q, .int .i64 (21 - (m : Int))] W fun e w' => ReadOut (readF ns m q) (fun q => q < w0.heap.size ∨ W.heap.size ≤ q) e w' ∧ Below W.heap.size W w') := ⟨fun W h => ih q (by have := HM.out; omega) (below_then HB0.out HS0.out (UP0.out W h)) (Nat.le_trans HS0.out (below_size (UP0.out W h)))⟩
                obtain ⟨h3a, h3b, hn0, hn1, hn2⟩ := SBX.out _ (UP.out _ HB5.out)
                have G9L := Aside0.mk (blk_lt BK9.out)
                rw [← hdw] at CALL
                clear hdw
                have HS9 : Aside0 (w0.heap.size ≤ g9) := ⟨by have := GE9.out; have := below_size HB2.out; have := HS0.out; omega⟩
                have HQF := Aside0.mk hqf
                have hr : Below wr.heap.size wr wr.drew := below_drew1 (Below.refl _ _)
                clear h3a h3b hn0 hn1 hn2 hqf
                go_upto_region 15 with fail
                (try simp only [Act.put, List.setIfInBounds_toArray, List.set_cons_zero, List.set_cons_succ])
                clear hxq
                refine start_ (n := 16) (S := fun w' => w'.cell? ⟨g3, 0, none⟩ = some (.slice (some adn) ns.length c) ∧ w'.cell? ⟨g3, 1, none⟩ = some (.int .i64 root) ∧ w'.cell? (adq.add ix) = some (.int .i64 q)) (ds := []) #[false, false, false, false, false, false, false, false, false, false, false, false, false, false, false, false] (by kernel_rfl) rfl rfl ⟨(SBX.out _ (UP.out _ (below_then HB5.out (below_size HB5.out) (hr)))).1, (SBX.out _ (UP.out _ (below_then HB5.out (below_size HB5.out) (hr)))).2.1, HXQ.out _ (below_then HB5.out (below_size HB5.out) (hr))⟩ (fun hHeld => ?_)
                refine pure_ (i := 1) (N := some 83) (v := ?_) (a' := ?_) #[false, true, false, false, false, false, false, false, false, false, false, false, false, false, false, false] rfl rfl (by kernel_rfl) (fun _ _ _ h => h) (Or.inl ⟨by rfl, ?_⟩) ?_ ?_
                rotate_left
                · intro w'
                  go_simp
                  with_reducible rfl
                rotate_left
                · simp only [Act.put, List.setIfInBounds_toArray, List.set_cons_zero, List.set_cons_succ, i64_w, i32_w]
                  rfl
                refine pure_ (i := 2) (N := some 84) (v := ?_) (a' := ?_) #[false, true, true, false, false, false, false, false, false, false, false, false, false, false, false, false] rfl rfl (by kernel_rfl) (fun _ _ _ h => h) (Or.inl ⟨by rfl, ?_⟩) ?_ ?_
                rotate_left
                · intro w'
                  go_simp
                  with_reducible rfl
                rotate_left
                · simp only [Act.put, List.setIfInBounds_toArray, List.set_cons_zero, List.set_cons_succ, i64_w, i32_w]
                  rfl
                refine pure_ (i := 3) (N := some 85) (v := ?_) (a' := ?_) #[false, true, true, true, false, false, false, false, false, false, false, false, false, false, false, false] rfl rfl (by kernel_rfl) (fun _ _ _ h => h) (Or.inl ⟨by rfl, ?_⟩) ?_ ?_
                rotate_left
                · intro w'
                  go_simp
                  with_reducible rfl
                rotate_left
                · simp only [Act.put, List.setIfInBounds_toArray, List.set_cons_zero, List.set_cons_succ, i64_w, i32_w]
                  rfl
                refine pure_ (i := 5) (N := some 87) (v := ?_) (a' := ?_) #[false, true, true, true, false, true, false, false, false, false, false, false, false, false, false, false] rfl rfl (by kernel_rfl) (fun _ _ _ h => h) (Or.inl ⟨by rfl, ?_⟩) ?_ ?_
                rotate_left
                · intro w'
                  go_simp
                  with_reducible rfl
                rotate_left
                · simp only [Act.put, List.setIfInBounds_toArray, List.set_cons_zero, List.set_cons_succ, i64_w, i32_w]
                  rfl
                refine pure_ (i := 6) (N := some 88) (v := ?_) (a' := ?_) #[false, true, true, true, false, true, true, false, false, false, false, false, false, false, false, false] rfl rfl (by kernel_rfl) (fun _ _ _ h => h) (Or.inl ⟨by rfl, ?_⟩) ?_ ?_
                rotate_left
                · intro w'
                  go_simp
                  with_reducible rfl
                rotate_left
                · simp only [Act.put, List.setIfInBounds_toArray, List.set_cons_zero, List.set_cons_succ, i64_w, i32_w]
                  rfl
                refine take_ (i := 0) (N := some 82) (v := ?_) (a' := ?_) #[true, true, true, true, false, true, true, false, false, false, false, false, false, false, false, false] rfl rfl (by kernel_rfl) (fun _ _ _ h => h) (Or.inl ⟨by rfl, ?_⟩) hHeld ?_ ?_
                rotate_left
                · rintro w' ⟨s0, s1, s2⟩
                  go_simp
                  with_reducible rfl
                rotate_left
                · simp only [Act.put, List.setIfInBounds_toArray, List.set_cons_zero, List.set_cons_succ, i64_w, i32_w]
                  rfl
                refine take_ (i := 4) (N := some 86) (v := ?_) (a' := ?_) #[true, true, true, true, true, true, true, false, false, false, false, false, false, false, false, false] rfl rfl (by kernel_rfl) (fun _ _ _ h => h) (Or.inl ⟨by rfl, ?_⟩) hHeld ?_ ?_
                rotate_left
                · rintro w' ⟨s0, s1, s2⟩
                  go_simp
                  with_reducible rfl
                rotate_left
                · simp only [Act.put, List.setIfInBounds_toArray, List.set_cons_zero, List.set_cons_succ, i64_w, i32_w]
                  rfl
                refine join_ (σ := Option Addr × Nat × Nat × Option Addr × Nat × Nat × Int × Bool × Nat) 3 #[true, true, true, true, true, true, true, true, true, true, true, true, true, false, false, false] (fun s_ => [(89, .tuple #[.agg #[.slice s_.1 s_.2.1 s_.2.2.1, .slice s_.2.2.2.1 s_.2.2.2.2.1 s_.2.2.2.2.2.1], .int .i64 s_.2.2.2.2.2.2.1, .bool s_.2.2.2.2.2.2.2.1]), (81, .tuple #[.agg #[.slice s_.1 s_.2.1 s_.2.2.1, .slice s_.2.2.2.1 s_.2.2.2.2.1 s_.2.2.2.2.2.1], .int .i64 s_.2.2.2.2.2.2.1, .bool s_.2.2.2.2.2.2.2.1]), (90, .agg #[.slice s_.1 s_.2.1 s_.2.2.1, .slice s_.2.2.2.1 s_.2.2.2.2.1 s_.2.2.2.2.2.1]), (91, .int .i64 s_.2.2.2.2.2.2.1), (92, .bool s_.2.2.2.2.2.2.2.1), (13, .pointer (some ⟨s_.2.2.2.2.2.2.2.2, 0, none⟩))]) (fun s_ w' => (w'.cell? ⟨g3, 0, none⟩ = some (.slice (some adn) ns.length c) ∧ w'.cell? ⟨g3, 1, none⟩ = some (.int .i64 root) ∧ w'.cell? (adq.add ix) = some (.int .i64 q)) ∧ Below wr.heap.size wr w' ∧ w'.heap[s_.2.2.2.2.2.2.2.2]? = some (.cells #[.slice none 0 0, .slice none 0 0] 47 (0, 0)) ∧ wr.heap.size ≤ s_.2.2.2.2.2.2.2.2 ∧ ReadD (readF ns m q) (fun q => (q < w0.heap.size ∨ g9 < q) ∧ q ≠ s_.2.2.2.2.2.2.2.2) w' s_.1 s_.2.1 s_.2.2.1 s_.2.2.2.1 s_.2.2.2.2.1 s_.2.2.2.2.2.1 s_.2.2.2.2.2.2.1 s_.2.2.2.2.2.2.2.1) ?_ ?_
                rotate_left
                · intro hCont
                  refine two_ (i := 7) (j := 12) (Ni := some 89) (Nj := some 13) #[true, true, true, true, true, true, true, true, false, false, false, false, false, false, false, false] #[true, true, true, true, true, true, true, false, false, false, false, false, true, false, false, false] rfl rfl rfl rfl (by kernel_rfl) (by decide) (by decide) (fun K hK => ?_) (fun K hK => ?_)
                  · skip
                    refine goes_ Try.func36 (by kernel_rfl) rfl #[.agg #[.slice (some adn) ns.length c, .int .i64 root], .int .i64 q, .int .i64 (wrap64 (dp + 1))] (by rfl) rfl rfl (by simp only [List.map_toArray, List.map_cons, List.map_nil]; rfl) ?_
                    with_reducible refine (CALL.out _ (below_then HB5.out (below_size HB5.out) (hr))).mono ?_
                    rintro e w7 ⟨⟨Ay0, ny0, cy0, Ay1, ny1, cy1, fy, yb, rfl, hor⟩, hb7⟩
                    refine ⟨_, rfl, ?_⟩
                    have HR7 := below_step hr hb7
                    have HD7 : ReadD (readF ns m q) (fun q => q < w0.heap.size ∨ g9 < q) w7 Ay0 ny0 cy0 Ay1 ny1 cy1 fy yb := ReadD_step hor (Below.refl _ _) (fun k hk _ => hk.imp_right (fun h => by have := below_size hr; have := G9L.out; omega))
                    refine hK.out _ _ ⟨(SBX.out _ (UP.out _ (below_then HB5.out (below_size HB5.out) (HR7)))).1, (SBX.out _ (UP.out _ (below_then HB5.out (below_size HB5.out) (HR7)))).2.1, HXQ.out _ (below_then HB5.out (below_size HB5.out) (HR7))⟩ (fun hHeld => ?_)
                    clear hK K
                    refine norm_ (a' := ?_) ?_ ?_
                    rotate_left
                    · show Act.put _ (some 89) _ = _
                      simp only [Act.put, List.setIfInBounds_toArray, List.set_cons_zero, List.set_cons_succ, i64_w, i32_w]
                      rfl
                    refine pure_ (i := 8) (N := some 81) (v := ?_) (a' := ?_) #[true, true, true, true, true, true, true, true, true, false, false, false, false, false, false, false] rfl rfl (by kernel_rfl) (fun _ _ _ h => h) (Or.inl ⟨by rfl, ?_⟩) ?_ ?_
                    rotate_left
                    · intro w'
                      go_simp
                      with_reducible rfl
                    rotate_left
                    · simp only [Act.put, List.setIfInBounds_toArray, List.set_cons_zero, List.set_cons_succ, i64_w, i32_w]
                      rfl
                    refine pure_ (i := 9) (N := some 90) (v := ?_) (a' := ?_) #[true, true, true, true, true, true, true, true, true, true, false, false, false, false, false, false] rfl rfl (by kernel_rfl) (fun _ _ _ h => h) (Or.inl ⟨by rfl, ?_⟩) ?_ ?_
                    rotate_left
                    · intro w'
                      go_simp
                      with_reducible rfl
                    rotate_left
                    · simp only [Act.put, List.setIfInBounds_toArray, List.set_cons_zero, List.set_cons_succ, i64_w, i32_w]
                      rfl
                    refine pure_ (i := 10) (N := some 91) (v := ?_) (a' := ?_) #[true, true, true, true, true, true, true, true, true, true, true, false, false, false, false, false] rfl rfl (by kernel_rfl) (fun _ _ _ h => h) (Or.inl ⟨by rfl, ?_⟩) ?_ ?_
                    rotate_left
                    · intro w'
                      go_simp
                      with_reducible rfl
                    rotate_left
                    · simp only [Act.put, List.setIfInBounds_toArray, List.set_cons_zero, List.set_cons_succ, i64_w, i32_w]
                      rfl
                    refine pure_ (i := 11) (N := some 92) (v := ?_) (a' := ?_) #[true, true, true, true, true, true, true, true, true, true, true, true, false, false, false, false] rfl rfl (by kernel_rfl) (fun _ _ _ h => h) (Or.inl ⟨by rfl, ?_⟩) ?_ ?_
                    rotate_left
                    · intro w'
                      go_simp
                      with_reducible rfl
                    rotate_left
                    · simp only [Act.put, List.setIfInBounds_toArray, List.set_cons_zero, List.set_cons_succ, i64_w, i32_w]
                      rfl
                    refine one_ (i := 12) (N := some 13) #[true, true, true, true, true, true, true, true, true, true, true, true, true, false, false, false] rfl rfl (by kernel_rfl) (by decide) (fun K hK => ?_)
                    refine box_step ?hg (N := 13) ?hd (cs := #[.slice none 0 0, .slice none 0 0]) (t := 47) ?hr ?_
                    case hd => rfl
                    case hg => rfl
                    case hr => first | (go_simp; done) | (go_simp; rfl)
                    intro g13 hg w8 hbox hb
                    have HR8 := below_step HR7 hb
                    have G13 : wr.heap.size ≤ g13 := by have := below_size HR7; omega
                    have BK13 := hbox
                    have HD8 : ReadD (readF ns m q) (fun q => (q < w0.heap.size ∨ g9 < q) ∧ q ≠ g13) w8 Ay0 ny0 cy0 Ay1 ny1 cy1 fy yb := ReadD_step HD7 hb (fun k hk hlt => ⟨hk, by omega⟩)
                    refine hK.out _ _ ⟨(SBX.out _ (UP.out _ (below_then HB5.out (below_size HB5.out) (HR8)))).1, (SBX.out _ (UP.out _ (below_then HB5.out (below_size HB5.out) (HR8)))).2.1, HXQ.out _ (below_then HB5.out (below_size HB5.out) (HR8))⟩ (fun hHeld => ?_)
                    clear hK K
                    refine norm_ (a' := ?_) ?_ ?_
                    rotate_left
                    · show Act.put _ (some 13) _ = _
                      simp only [Act.put, List.setIfInBounds_toArray, List.set_cons_zero, List.set_cons_succ, i64_w, i32_w]
                      rfl
                    exact norm_ (by simp only [putAll, Act.put, List.setIfInBounds_toArray, List.set_cons_zero, List.set_cons_succ]) (hCont (Ay0, ny0, cy0, Ay1, ny1, cy1, fy, yb, g13) _ ⟨hHeld, HR8, BK13, G13, HD8⟩)
                  · skip
                    refine box_step ?hg (N := 13) ?hd (cs := #[.slice none 0 0, .slice none 0 0]) (t := 47) ?hr ?_
                    case hd => rfl
                    case hg => rfl
                    case hr => first | (go_simp; done) | (go_simp; rfl)
                    intro g13 hg w8 hbox hb
                    have HR8 := below_step hr hb
                    have G13 : wr.heap.size ≤ g13 := by have := below_size hr; omega
                    have BK13 := hbox
                    refine hK.out _ _ ⟨(SBX.out _ (UP.out _ (below_then HB5.out (below_size HB5.out) (HR8)))).1, (SBX.out _ (UP.out _ (below_then HB5.out (below_size HB5.out) (HR8)))).2.1, HXQ.out _ (below_then HB5.out (below_size HB5.out) (HR8))⟩ (fun hHeld => ?_)
                    clear hK K
                    refine norm_ (a' := ?_) ?_ ?_
                    rotate_left
                    · show Act.put _ (some 13) _ = _
                      simp only [Act.put, List.setIfInBounds_toArray, List.set_cons_zero, List.set_cons_succ, i64_w, i32_w]
                      rfl
                    refine one_ (i := 7) (N := some 89) #[true, true, true, true, true, true, true, true, false, false, false, false, true, false, false, false] rfl rfl (by kernel_rfl) (by decide) (fun K hK => ?_)
                    refine goes_ Try.func36 (by kernel_rfl) rfl #[.agg #[.slice (some adn) ns.length c, .int .i64 root], .int .i64 q, .int .i64 (wrap64 (dp + 1))] (by rfl) rfl rfl (by simp only [List.map_toArray, List.map_cons, List.map_nil]; rfl) ?_
                    with_reducible refine (CALL.out _ (below_then HB5.out (below_size HB5.out) (HR8))).mono ?_
                    rintro e w7 ⟨⟨Ay0, ny0, cy0, Ay1, ny1, cy1, fy, yb, rfl, hor⟩, hb7⟩
                    refine ⟨_, rfl, ?_⟩
                    have HR7 := below_step HR8 hb7
                    have BK13b := blk_below BK13 hb7
                    have HD7 : ReadD (readF ns m q) (fun q => (q < w0.heap.size ∨ g9 < q) ∧ q ≠ g13) w7 Ay0 ny0 cy0 Ay1 ny1 cy1 fy yb := ReadD_step hor (Below.refl _ _) (fun k hk _ => ⟨hk.imp_right (fun h => by have := below_size HR8; have := G9L.out; omega), by have := blk_lt BK13; have := HS9.out; have := G9L.out; have := below_size HR8; rcases hk with h | h <;> omega⟩)
                    refine hK.out _ _ ⟨(SBX.out _ (UP.out _ (below_then HB5.out (below_size HB5.out) (HR7)))).1, (SBX.out _ (UP.out _ (below_then HB5.out (below_size HB5.out) (HR7)))).2.1, HXQ.out _ (below_then HB5.out (below_size HB5.out) (HR7))⟩ (fun hHeld => ?_)
                    clear hK K
                    refine norm_ (a' := ?_) ?_ ?_
                    rotate_left
                    · show Act.put _ (some 89) _ = _
                      simp only [Act.put, List.setIfInBounds_toArray, List.set_cons_zero, List.set_cons_succ, i64_w, i32_w]
                      rfl
                    refine pure_ (i := 8) (N := some 81) (v := ?_) (a' := ?_) #[true, true, true, true, true, true, true, true, true, false, false, false, true, false, false, false] rfl rfl (by kernel_rfl) (fun _ _ _ h => h) (Or.inl ⟨by rfl, ?_⟩) ?_ ?_
                    rotate_left
                    · intro w'
                      go_simp
                      with_reducible rfl
                    rotate_left
                    · simp only [Act.put, List.setIfInBounds_toArray, List.set_cons_zero, List.set_cons_succ, i64_w, i32_w]
                      rfl
                    refine pure_ (i := 9) (N := some 90) (v := ?_) (a' := ?_) #[true, true, true, true, true, true, true, true, true, true, false, false, true, false, false, false] rfl rfl (by kernel_rfl) (fun _ _ _ h => h) (Or.inl ⟨by rfl, ?_⟩) ?_ ?_
                    rotate_left
                    · intro w'
                      go_simp
                      with_reducible rfl
                    rotate_left
                    · simp only [Act.put, List.setIfInBounds_toArray, List.set_cons_zero, List.set_cons_succ, i64_w, i32_w]
                      rfl
                    refine pure_ (i := 10) (N := some 91) (v := ?_) (a' := ?_) #[true, true, true, true, true, true, true, true, true, true, true, false, true, false, false, false] rfl rfl (by kernel_rfl) (fun _ _ _ h => h) (Or.inl ⟨by rfl, ?_⟩) ?_ ?_
                    rotate_left
                    · intro w'
                      go_simp
                      with_reducible rfl
                    rotate_left
                    · simp only [Act.put, List.setIfInBounds_toArray, List.set_cons_zero, List.set_cons_succ, i64_w, i32_w]
                      rfl
                    refine pure_ (i := 11) (N := some 92) (v := ?_) (a' := ?_) #[true, true, true, true, true, true, true, true, true, true, true, true, true, false, false, false] rfl rfl (by kernel_rfl) (fun _ _ _ h => h) (Or.inl ⟨by rfl, ?_⟩) ?_ ?_
                    rotate_left
                    · intro w'
                      go_simp
                      with_reducible rfl
                    rotate_left
                    · simp only [Act.put, List.setIfInBounds_toArray, List.set_cons_zero, List.set_cons_succ, i64_w, i32_w]
                      rfl
                    exact norm_ (by simp only [putAll, Act.put, List.setIfInBounds_toArray, List.set_cons_zero, List.set_cons_succ]) (hCont (Ay0, ny0, cy0, Ay1, ny1, cy1, fy, yb, g13) _ ⟨hHeld, HR7, BK13b, G13, HD7⟩)
                rintro ⟨Ay0, ny0, cy0, Ay1, ny1, cy1, fy, yb, g13⟩ w8 ⟨hHeld, HR8, BK13, G13, HD8⟩
                have hHeld : w8.cell? ⟨g3, 0, none⟩ = some (.slice (some adn) ns.length c) ∧ w8.cell? ⟨g3, 1, none⟩ = some (.int .i64 root) ∧ w8.cell? (adq.add ix) = some (.int .i64 q) := hHeld
                replace HR8 : Below wr.heap.size wr w8 := HR8
                replace BK13 : w8.heap[g13]? = some (.cells #[.slice none 0 0, .slice none 0 0] 47 (0, 0)) := BK13
                replace G13 : wr.heap.size ≤ g13 := G13
                replace HD8 : ReadD (readF ns m q) (fun q => (q < w0.heap.size ∨ g9 < q) ∧ q ≠ g13) w8 Ay0 ny0 cy0 Ay1 ny1 cy1 fy yb := HD8
                refine norm_ (a' := ?_) ?_ ?_
                rotate_left
                · simp only [putAll, Act.put, List.setIfInBounds_toArray, List.set_cons_zero, List.set_cons_succ]
                  rfl
                refine one_ (i := 13) (N := none) #[true, true, true, true, true, true, true, true, true, true, true, true, true, true, false, false] rfl rfl (by kernel_rfl) (by decide) (fun K hK => ?_)
                have hz0 : w8.cell? ⟨g13, 0, none⟩ = some (.slice none 0 0) := (blk_cell BK13 0).trans rfl
                have hz1 : w8.cell? ⟨g13, 1, none⟩ = some (.slice none 0 0) := (blk_cell BK13 1).trans rfl
                have fz0 := blk_frozen BK13 0
                have fz1 := blk_frozen BK13 1
                refine skip_ (w1 := ?_) (by rfl) rfl ?_ ?_
                rotate_left
                · go_simp
                  rfl
                clear hz0 hz1 fz0 fz1
                obtain ⟨w9, hw⟩ : ∃ w9 : World, w9 = (w8.setCell ⟨g13, 0, none⟩ (.slice Ay0 ny0 cy0)).setCell ⟨g13, 1, none⟩ (.slice Ay1 ny1 cy1) := ⟨_, rfl⟩
                rw [← hw]
                have HR9 := Aside0.mk (show Below wr.heap.size wr w9 by rw [hw]; exact below_set (below_set HR8 G13) G13)
                have BK13 := Aside0.mk (show w9.heap[g13]? = some (.cells #[.slice Ay0 ny0 cy0, .slice Ay1 ny1 cy1] 47 (0, 0)) by rw [hw]; exact blk_put (cs' := #[.slice Ay0 ny0 cy0, .slice Ay1 ny1 cy1]) (blk_put (cs' := #[.slice Ay0 ny0 cy0, .slice none 0 0]) BK13 0 (.slice Ay0 ny0 cy0) rfl) 1 (.slice Ay1 ny1 cy1) rfl)
                have HD9 := Aside0.mk (show ReadD (readF ns m q) (fun q => q < w0.heap.size ∨ g9 < q) w9 Ay0 ny0 cy0 Ay1 ny1 cy1 fy yb by rw [hw]; exact ReadD_step (ReadD_set (ReadD_set HD8 (fun k hk => hk.2)) (fun k hk => hk.2)) (Below.refl _ _) (fun k hk _ => hk.1))
                clear HD8 hw
                refine hK.out _ _ ⟨(SBX.out _ (UP.out _ (below_then HB5.out (below_size HB5.out) (HR9.out)))).1, (SBX.out _ (UP.out _ (below_then HB5.out (below_size HB5.out) (HR9.out)))).2.1, HXQ.out _ (below_then HB5.out (below_size HB5.out) (HR9.out))⟩ (fun hHeld => ?_)
                clear hK K
                refine pure_ (i := 14) (N := some 14) (v := ?_) (a' := ?_) #[true, true, true, true, true, true, true, true, true, true, true, true, true, true, true, false] rfl rfl (by kernel_rfl) (fun _ _ _ h => h) (Or.inl ⟨by rfl, ?_⟩) ?_ ?_
                rotate_left
                · intro w'
                  go_simp
                  with_reducible rfl
                rotate_left
                · simp only [Act.put, List.setIfInBounds_toArray, List.set_cons_zero, List.set_cons_succ, i64_w, i32_w]
                  rfl
                refine pure_ (i := 15) (N := some 15) (v := ?_) (a' := ?_) #[true, true, true, true, true, true, true, true, true, true, true, true, true, true, true, true] rfl rfl (by kernel_rfl) (fun _ _ _ h => h) (Or.inl ⟨by rfl, ?_⟩) ?_ ?_
                rotate_left
                · intro w'
                  go_simp
                  with_reducible rfl
                rotate_left
                · simp only [Act.put, List.setIfInBounds_toArray, List.set_cons_zero, List.set_cons_succ, i64_w, i32_w]
                  rfl
                refine done_ (by kernel_rfl) ?_
                clear hHeld hr
                have HB9 := Aside0.mk (below_then HB5.out (below_size HB5.out) HR9.out)
                rcases HD9.out with ⟨hr0, rfl⟩ | ⟨y, hr0, rfl, rfl, rfl, hy⟩
                · have HRN2 := Aside0.mk (show readF ns (m + 1) (kn : Int) = none by rw [HRN.out, readL_stop _ _ _ HLT.out (by rw [HSTEP.out, if_pos HQF.out, hr0]; rfl)]; rfl)
                  have BK6b := Aside0.mk (blk_below BK6.out HR9.out)
                  have hg6_0 : w9.cell? ⟨g6, 0, none⟩ = some (.slice none 0 0) := (blk_cell BK6b.out 0).trans rfl
                  have hg6_1 : w9.cell? ⟨g6, 1, none⟩ = some (.slice none 0 0) := (blk_cell BK6b.out 1).trans rfl
                  have fg6_0 := blk_frozen BK6b.out 0
                  have fg6_1 := blk_frozen BK6b.out 1
                  clear hr0 HD9 HR8 G13
                  go_wp2
                  refine bodyPost_ret (results_ctt rfl _ _ g6 47 #[.slice none 0 0, .slice none 0 0] (0, 0) _ rfl (by refine blk_put (cs := #[.slice none 0 0, .slice none 0 0]) ?_ 1 _ rfl; refine blk_put (cs := #[.slice none 0 0, .slice none 0 0]) ?_ 0 _ rfl; exact BK6b.out) Try.underlying47 rfl (by kernel_rfl)) rfl ?_
                  exact ⟨⟨_, _, _, _, _, _, _, _, rfl, .inl ⟨HRN2.out, rfl⟩⟩, below_weaken HB1.out (below_size HB1.out) (below_set (below_set (UP.out _ HB9.out) GE6.out) GE6.out)⟩
                · have HST2 := Aside0.mk (show readL (readF ns m) qs (kn : Int) (s + 1) = some (y :: xs, fy) by rw [HSTEP.out, if_pos HQF.out, hr0]; rfl)
                  have HFY := Aside0.mk (readF_rng ns m q y fy hr0)
                  have HY := Aside0.mk hy
                  have BK9b := Aside0.mk (blk_below BK9.out HR9.out)
                  have HV9 := Aside0.mk (kF_below HR9.out (Kd.R_below HV.out HR9.out))
                  have hwi : wrap64 ((ix : Int) - 1) = (ix : Int) - 1 := by unfold wrap64; have := HSQ.out.2; omega
                  obtain ⟨Av, cv, ev⟩ := Kd.R_slice HV9.out
                  subst ev
                  have hg130 : w9.cell? ⟨g13, 0, none⟩ = some (.slice Ay0 y.f0.length cy0) := (blk_cell BK13.out 0).trans rfl
                  have hg131 : w9.cell? ⟨g13, 1, none⟩ = some (.slice Ay1 y.f1.length cy1) := (blk_cell BK13.out 1).trans rfl
                  clear hy hr0 HD9 HR8 G13
                  go_wp2_with (first | ((with_reducible refine gate_dst (N := 97) rfl ?_); go_loud (refine Kd.R_lit (kF (fun q => q < w0.heap.size ∨ g9 < q) w9) (w0 := w9) w9.heap.size 47 ?hg (N := 97) ?hd (xs := [y]) (inner := [.slice Ay0 y.f0.length cy0, .slice Ay1 y.f1.length cy1]) (ok := fun _ => True) (okp := fun _ => True) ?hr ?hp (fun _ hk => hk) trivial (Below.refl _ _) (Nat.le_refl _) (by simp) ?_; (case hd => rfl); (case hg => rfl); (case hr => first | (go_simp; done) | (go_simp; rfl)); (case hp => exact Reps.snoc (Reps.none _ _) HY.out rfl); intro vl wl hol hbl hgl hnl; have HOL := Aside0.mk hol; have HBL := Aside0.mk hbl; have hg91 : wl.cell? ⟨g9, 1, none⟩ = some (.slice Av xs.length cv) := (blk_cell (blk_below BK9b.out hbl) 1).trans rfl; clear hol hbl hgl hnl; obtain ⟨Al, cl, el⟩ := Kd.R_slice HOL.out; subst el)) | ((with_reducible refine gate_builtin (b := .append) (xs := #[.tmp 97, .tmp 99]) rfl ?_); go_loud (at_builtin; refine Kd.R_append_rows (kF (fun q => q < w0.heap.size ∨ g9 < q) w9) (w0 := w9) w9.heap.size rfl (.tmp 97) (.tmp 99) 45 47 (.agg #[.slice none 0 0, .slice none 0 0]) 48 rfl Try.underlying45 info47 rfl (show 0 < 2 by decide) (by omega) (.slice Al [y].length cl) [y] xs _ _ _ (fun _ => True) (fun _ => False) rfl rfl ?aO ?aR (fun _ _ h => h) (fun _ h => h.elim) ?aF ?aB ?aS ?aL ?_; (case aR => exact (Kd.R_reads' (Kd.R_below HV9.out HBL.out)).2.2); (case aB => exact HBL.out); (case aF => exact (fun _ _ => trivial)); (case aO => exact HOL.out); (case aS => exact (below_size HBL.out)); (case aL => have := HXL.out; have := HLT.out; have := HSQ.out.2; rw [List.length_singleton]; omega); intro vz wz hoz hbz hgz hatz; obtain ⟨L8, hL8⟩ : ∃ L8, L8 = [y] ++ xs := ⟨_, rfl⟩; rw [← hL8] at hoz; have HL8 := Aside0.mk hL8; have HOZ := Aside0.mk hoz; have HBZ := Aside0.mk hbz; clear hoz hbz hgz hatz hg91 hL8; obtain ⟨Az, cz, ez⟩ := Kd.R_slice HOZ.out; subst ez; have hgz1 : wz.cell? ⟨g9, 1, none⟩ = some (.slice Av xs.length cv) := (blk_cell (blk_below BK9b.out HBZ.out) 1).trans rfl; have fgz1 := blk_frozen (blk_below BK9b.out HBZ.out) 1)))
                  have BK9c := Aside0.mk (show (wz.setCell ⟨g9, 1, none⟩ (.slice Az L8.length cz)).heap[g9]? = some (.cells #[.slice A1 ks.length c1, .slice Az L8.length cz] 47 (0, 0)) from blk_put (cs' := #[.slice A1 ks.length c1, .slice Az L8.length cz]) (blk_below BK9b.out HBZ.out) 1 _ rfl)
                  have HVS := Aside0.mk (show (kF (fun q => q < w0.heap.size ∨ g9 < q) (wz.setCell ⟨g9, 1, none⟩ (.slice Az L8.length cz))).R 47 (wz.setCell ⟨g9, 1, none⟩ (.slice Az L8.length cz)) (g9 + 1) (fun _ => True) (.slice Az L8.length cz) L8 from kF_step (fun k hk hlt => (Below.heap_setCell wz ⟨g9, 1, none⟩ _ k (by have := HS9.out; show k ≠ g9; rcases hk with h | h <;> omega)).trans (HBZ.out.block k hlt)) (R_setlow (Kd.R_lower HOZ.out (by have := blk_lt BK9b.out; omega)) (Nat.lt_succ_self g9) 1 _))
                  have HBS := Aside0.mk (show Below w2.heap.size w2 (wz.setCell ⟨g9, 1, none⟩ (.slice Az L8.length cz)) from below_set (below_then HB9.out (below_size HB9.out) HBZ.out) GE9.out)
                  clear hgz1 fgz1
                  go_roundg (qs.length - (s + 1))
                  case measure => exact HME.out
                  case rel => exact ⟨s + 1, L8, fy, (ix : Int) - 1, _, rfl, by first | (rw [hwi]; done) | rfl, HLT.out, Nat.le_refl _, ⟨by have := HIX.out; have := HLT.out; omega⟩, ⟨by rw [HL8.out]; exact HST2.out⟩, ⟨by have := HFY.out; have := HN.out; omega⟩, ⟨by rw [HL8.out, List.length_append, HXL.out, List.length_singleton]; omega⟩, BK9c, HVS, HBS⟩
            · obtain rfl : s = qs.length := Nat.le_antisymm hsn (Nat.not_lt.mp hlt)
              have hge : decide (iz ≥ 0) = false := decide_eq_false (by have := HIZ.out; omega)
              have hge2 : ¬ (iz ≥ 0) := of_decide_eq_false hge
              have BK6b := Aside0.mk (blk_below BK6.out HB5.out)
              obtain ⟨Av, cv, ev⟩ := Kd.R_slice HV.out
              subst ev
              have NE96 : Aside0 (g9 ≠ g6) := ⟨by have := GE9.out; have := LT6.out; omega⟩
              have HRS := Aside0.mk (show readF ns (m + 1) (kn : Int) = some (⟨ks, xs⟩, f) by rw [HRN.out, HRL.out]; rfl)
              clear hsk hlt hsn
              have hg6_0 : wr.cell? ⟨g6, 0, none⟩ = some (.slice none 0 0) := (blk_cell BK6b.out 0).trans rfl
              have hg6_1 : wr.cell? ⟨g6, 1, none⟩ = some (.slice none 0 0) := (blk_cell BK6b.out 1).trans rfl
              have fg6_0 := blk_frozen BK6b.out 0
              have fg6_1 := blk_frozen BK6b.out 1
              have hg9_0 : wr.cell? ⟨g9, 0, none⟩ = some (.slice A1 ks.length c1) := (blk_cell BK9.out 0).trans rfl
              have hg9_1 : wr.cell? ⟨g9, 1, none⟩ = some (.slice Av xs.length cv) := (blk_cell BK9.out 1).trans rfl
              go_wp2
              have BKr := Aside0.mk (blk_put (cs' := #[.slice A1 ks.length c1, .slice Av xs.length cv]) (blk_put (cs' := #[.slice A1 ks.length c1, .slice none 0 0]) BK6b.out 0 (.slice A1 ks.length c1) rfl) 1 (.slice Av xs.length cv) rfl)
              have HBr := Aside0.mk (below_set (j := 1) (v := .slice Av xs.length cv) (below_set (j := 0) (v := .slice A1 ks.length c1) (UP.out _ HB5.out) GE6.out) GE6.out)
              refine bodyPost_ret (results_ctt rfl _ _ g6 47 #[.slice A1 ks.length c1, .slice Av xs.length cv] (0, 0) _ rfl BKr.out Try.underlying47 rfl (by kernel_rfl)) rfl ?_
              have HBw := below_weaken HB1.out (below_size HB1.out) HBr.out
              refine ⟨⟨_, _, _, _, _, _, _, _, rfl, .inr ⟨_, HRS.out, rfl, rfl, rfl, ?_⟩⟩, HBw⟩
              have hcl := (Kd.R_reads' HV.out).2.1
              refine k47_mkF _ _ (⟨ks, xs⟩ : S47) HL1.out (Kd.F_mono (KF.out _ HBw) (fun _ h => .inl h)) hcl ?_
              refine Kd.F_mono (Kd.F_step (kF_F HV.out) (fun k hk hlt => ?_)) (fun k hk => ?_)
              · have h6 : k ≠ g6 := by
                  have := GE9.out; have := LT6.out; have := GE6.out; have := below_size HB1.out; have := HS0.out
                  rcases hk with (h | h) | h <;> omega
                exact ((Below.heap_setCell _ ⟨g6, 1, none⟩ _ k h6).trans (Below.heap_setCell _ ⟨g6, 0, none⟩ _ k h6))
              · have := GE9.out; have := below_size HB2.out
                rcases hk with (h | h) | h
                · exact .inl h
                · exact .inr (by omega)
                · exact .inr (by omega)

end Go.Proofs.Ytmgbfbpolmbnfaa.PFnExactKeysOf
