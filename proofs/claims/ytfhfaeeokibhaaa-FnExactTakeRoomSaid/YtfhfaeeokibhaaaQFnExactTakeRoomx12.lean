/- The walks of FnExactTakeRoom: Go's calls come to what the Lean functions beside them say; no condition. -/
import Derived.Test.YtfhfaeeokibhaaaQFnExactTakeRoomx0
import Derived.Test.YtfhfaeeokibhaaaQFnExactTakeRoomx8
import Derived.Test.YtfhfaeeokibhaaaQFnExactTakeRoomx10
import Derived.Test.YtfhfaeeokibhaaaQFnExactTakeRoomx11
namespace Go.Proofs.Ytfhfaeeokibhaaa.PFnExactTakeRoom
open Go.RowKit Go.Proofs.YtfhfaeeokibhaaaW.PrintWords Go.Proofs.YtfhfaeeokibhaaaW.PrintLast Go.Proofs.YtfhfaeeokibhaaaW.PrintMore
attribute [local go_sem] max2_int min2_int max_two min_two max_three min_three max_four min_four   -- for this text's walks alone
set_option linter.unusedVariables false
set_option linter.unusedSimpArgs false
set_option maxRecDepth 100000

/-! ### impl_Free_changed: function 53 (by hand) -/
/-- what a bitmap says, and that it does not -/
def bitP (l : List Bool) (i : Int) : Option Bool := if 0 ≤ i ∧ i < (l.length : Int) then some (rdOf false l i) else none
def bitN (l : List Bool) (i : Int) : Option Bool := if 0 ≤ i ∧ i < (l.length : Int) then some (!(rdOf false l i)) else none
set_option maxHeartbeats 400000 in
theorem impl_Free_changed.clo (i : Int) (b : Bool) (A1 : Option Addr) (c1 : Nat) (l1 : List Bool) (g : Nat) (W : World) (hg : W.heap[g]? = some (.cells #[.slice A1 l1.length c1] 63 (0, 0))) (hr : Kd.C Kd.bool W A1 l1.length l1) (hi : bitP l1 i = some b) :
  Calls Try.prog 61 (#[.int .i64 i] ++ #[.pointer (some ⟨g, 0, none⟩)]) W fun e w' => e = .returned (.bool b) ∧ Below W.heap.size W w' := by
 show Calls Try.prog 61 #[.int .i64 i, .pointer (some ⟨g, 0, none⟩)] W _
 unfold bitP at hi
 by_cases hc : 0 ≤ i ∧ i < (l1.length : Int)
 case neg => rw [if_neg hc] at hi; cases hi
 rw [if_pos hc] at hi
 obtain ⟨p1, q1⟩ := hc
 obtain ⟨ad1, e1, hx1⟩ := Kd.at_bool hr i p1 q1
 subst e1
 obtain rfl := Option.some.inj hi
 clear hi
 have hc : W.cell? ⟨g, 0, none⟩ = some (.slice (some ad1) l1.length c1) := (yC hg 0).trans rfl
 generalize rdOf false l1 i = b at hx1 ⊢
 replace p1 := eq_true p1
 replace q1 := eq_true q1
 clear hg hr
 go_enter Try.func61, Try.ntmps61
 go_wp2
 go_ret
 exact ⟨by first | rfl | (simp; done), by repeat (first | exact Below.refl _ _ | apply zD | apply zN)⟩
/-- the bits from a on, n of them, turned to fr: none inside where one is so already -/
def impl_Free_changed.chg (fr : Bool) (a n : Int) : Nat → Int → List Bool → Option (Option (List Bool))
 | 0, _, _ => none
 | k + 1, i, l => if i < n then (if 0 ≤ wrap64 (a + i) then (if wrap64 (a + i) < (l.length : Int) then (if rdOf false l (wrap64 (a + i)) = fr then some none else impl_Free_changed.chg fr a n k (wrap64 (i + 1)) (l.set (wrap64 (a + i)).toNat fr)) else none) else none) else some (some l)
theorem impl_Free_changed.chg_mono (fr : Bool) (a n : Int) : ∀ (k : Nat) (i : Int) (l : List Bool), LeO (impl_Free_changed.chg fr a n k i l) (impl_Free_changed.chg fr a n (k + 1) i l)
 | 0, i, l => LeO.none _
 | k + 1, i, l => by
  rw [impl_Free_changed.chg, impl_Free_changed.chg]
  exact LeO.ite (LeO.ite (LeO.ite (LeO.ite (LeO.refl _) (impl_Free_changed.chg_mono fr a n k _ _)) (LeO.refl _)) (LeO.refl _)) (LeO.refl _)
def impl_Free_changed.f (k : Nat) (a0_0 : Int) (l0_1 : List (S49)) (l0_2 : List (S49)) (a1_0 : Int) (a1_1 : Int) (a2 : Bool) : Option (Int × (List (S49)) × (List (S49)) × Bool) :=
 (impl_Free_isFree.f k a0_0 l0_1 l0_2).bind fun t1 => (impl_Free_changed.chg a2 a1_0 a1_1 k 0 t1).bind fun c => match c with
  | none => some (0, ([] : List S49), ([] : List S49), false)
  | some l => (impl_merged.f (bitP l) k a0_0).bind fun m => (impl_freeOf.f a0_0 m).bind fun s => (impl_GoodFree.f k a0_0 m s).bind fun g => if g = true then some (a0_0, m, s, true) else some (0, ([] : List S49), ([] : List S49), false)
theorem impl_Free_changed.mono : ∀ a0 a1 a2 a3 a4 a5 k, LeO (impl_Free_changed.f k a0 a1 a2 a3 a4 a5) (impl_Free_changed.f (k + 1) a0 a1 a2 a3 a4 a5) := by
 intro a0 a1 a2 a3 a4 a5 k
 unfold impl_Free_changed.f
 refine LeO.bind (impl_Free_isFree.mono _ _ _ k) (fun _ => LeO.bind (impl_Free_changed.chg_mono _ _ _ k _ _) (fun c => ?_))
 cases c with
 | none => exact LeO.refl _
 | some l => exact LeO.bind (impl_merged.mono _ _ k) (fun _ => LeO.bind (LeO.refl _) (fun _ => LeO.bind (impl_GoodFree.mono _ _ _ k) (fun _ => LeO.refl _)))
set_option maxHeartbeats 8000000 in
set_option maxRecDepth 100000 in
theorem impl_Free_changed.calls (k : Nat) (a0_0 : Int) (A0_1 : Option Addr) (c0_1 : Nat) (l0_1 : List (S49)) (A0_2 : Option Addr) (c0_2 : Nat) (l0_2 : List (S49)) (a1_0 : Int) (a1_1 : Int) (a2 : Bool) (r1 : Int) (r2 : List (S49)) (r3 : List (S49)) (r4 : Bool) (w : World) (hr0_1 : Kd.C k49 w A0_1 l0_1.length l0_1) (hc0_1 : l0_1.length ≤ c0_1) (hr0_2 : Kd.C k49 w A0_2 l0_2.length l0_2) (hc0_2 : l0_2.length ≤ c0_2) (h : impl_Free_changed.f k a0_0 l0_1 l0_2 a1_0 a1_1 a2 = some (r1, r2, r3, r4)) :
  Calls Try.prog 53 #[.agg #[.int .i64 a0_0, .slice A0_1 l0_1.length c0_1, .slice A0_2 l0_2.length c0_2], .agg #[.int .i64 a1_0, .int .i64 a1_1], .bool a2] w fun e w' => ∃ v1_ v2_ : Value, e = .returned (.tuple #[.agg #[.int .i64 r1, v1_, v2_], .bool r4]) ∧ Kd.R k49 49 w' w.heap.size (fun k_ => some k_ ≠ (v2_ : Value).ownBlock) v1_ r2 ∧ Kd.R k49 49 w' w.heap.size (fun k_ => some k_ ≠ (v1_ : Value).ownBlock) v2_ r3 ∧ Below w.heap.size w w' := by
 unfold impl_Free_changed.f at h
 obtain ⟨t1, hI, h1⟩ := Option.bind_eq_some_iff.mp h
 clear h
 obtain ⟨cr, hCH, h2⟩ := Option.bind_eq_some_iff.mp h1
 clear h1
 have HI := aM hI
 have HCH := aM hCH
 have HX := aM h2
 clear hI hCH h2
 have HR0_1 := aM hr0_1
 have HC0_1 := aM hc0_1
 have HR0_2 := aM hr0_2
 have HC0_2 := aM hc0_2
 clear hr0_1 hc0_1 hr0_2 hc0_2
 have HB := aM (Below.refl w.heap.size w)
 go_enter Try.func53, Try.ntmps53
 go_wp2_with (first | ((with_reducible refine gate_dst (N := 3) rfl ?_); refine box_event ?hg (N := 3) ?hd (cs := #[.int .i64 a0_0, .slice A0_1 l0_1.length c0_1, .slice A0_2 l0_2.length c0_2]) (t := 24) ?hr ?_; (case hd => rfl); (case hg => rfl); (case hr => first | (go_simp; done) | (go_simp; rfl)); intro gb1 hg w_2 hbox hb; have n_HB := aM (zT (zH HB.out) hb); have n_GE := aM ((by rw [hg]; exact (zZ (zH HB.out))) : w.heap.size ≤ gb1); clear HB; have HB := n_HB; clear n_HB; have BKgb1 := aM hbox; have GEgb1 := n_GE; clear n_GE; have hcq3_0 : w_2.cell? ⟨gb1, 0, none⟩ = some (.int .i64 a0_0) := yc BKgb1.out 0; have hfq3_0 := yZ BKgb1.out 0; have hcq3_1 : w_2.cell? ⟨gb1, 1, none⟩ = some (.slice A0_1 l0_1.length c0_1) := yc BKgb1.out 1; have hfq3_1 := yZ BKgb1.out 1; have hcq3_2 : w_2.cell? ⟨gb1, 2, none⟩ = some (.slice A0_2 l0_2.length c0_2) := yc BKgb1.out 2; have hfq3_2 := yZ BKgb1.out 2; clear hbox hb hg) | ((with_reducible refine gate_dst (N := 4) rfl ?_); refine box_event ?hg (N := 4) ?hd (cs := #[.int .i64 a1_0, .int .i64 a1_1]) (t := 49) ?hr ?_; (case hd => rfl); (case hg => rfl); (case hr => first | (go_simp; done) | (go_simp; rfl)); intro gb4 hg w_5 hbox hb; have n_BKgb1 := aM (yB (g := gb1) (o := (.cells #[.int .i64 a0_0, .slice A0_1 l0_1.length c0_1, .slice A0_2 l0_2.length c0_2] 24 (0, 0))) (yH BKgb1.out) hb); have n_HB := aM (zT (zH HB.out) hb); have n_GE := aM ((by rw [hg]; exact (zZ (zH HB.out))) : w.heap.size ≤ gb4); have n_NAgb1 := aM ((by rw [hg]; exact Nat.ne_of_lt (blk_lt (g := gb1) (o := (.cells #[.int .i64 a0_0, .slice A0_1 l0_1.length c0_1, .slice A0_2 l0_2.length c0_2] 24 (0, 0))) (yH BKgb1.out))) : gb1 ≠ gb4); clear BKgb1 HB; have BKgb1 := n_BKgb1; have HB := n_HB; clear n_BKgb1 n_HB; have BKgb4 := aM hbox; have GEgb4 := n_GE; clear n_GE; have hnegb1_gb4 := n_NAgb1.out; have hnfgb1_gb4 : gb4 ≠ gb1 := fun h => n_NAgb1.out h.symm; clear n_NAgb1; have hcq6_0 : w_5.cell? ⟨gb1, 0, none⟩ = some (.int .i64 a0_0) := yc BKgb1.out 0; have hfq6_0 := yZ BKgb1.out 0; have hcq6_1 : w_5.cell? ⟨gb1, 1, none⟩ = some (.slice A0_1 l0_1.length c0_1) := yc BKgb1.out 1; have hfq6_1 := yZ BKgb1.out 1; have hcq6_2 : w_5.cell? ⟨gb1, 2, none⟩ = some (.slice A0_2 l0_2.length c0_2) := yc BKgb1.out 2; have hfq6_2 := yZ BKgb1.out 2; have hcq7_0 : w_5.cell? ⟨gb4, 0, none⟩ = some (.int .i64 a1_0) := yc BKgb4.out 0; have hfq7_0 := yZ BKgb4.out 0; have hcq7_1 : w_5.cell? ⟨gb4, 1, none⟩ = some (.int .i64 a1_1) := yc BKgb4.out 1; have hfq7_1 := yZ BKgb4.out 1; clear hbox hb hg) | ((with_reducible refine gate_dst (N := 6) rfl ?_); refine box_event ?hg (N := 6) ?hd (cs := #[.int .i64 0, .slice none 0 0, .slice none 0 0]) (t := 24) ?hr ?_; (case hd => rfl); (case hg => rfl); (case hr => first | (go_simp; done) | (go_simp; rfl)); intro gb8 hg w_9 hbox hb; have n_BKgb1 := aM (yB (g := gb1) (o := (.cells #[.int .i64 a0_0, .slice A0_1 l0_1.length c0_1, .slice A0_2 l0_2.length c0_2] 24 (0, 0))) (yH BKgb1.out) hb); have n_BKgb4 := aM (yB (g := gb4) (o := (.cells #[.int .i64 a1_0, .int .i64 a1_1] 49 (0, 0))) (yH BKgb4.out) hb); have n_HB := aM (zT (zH HB.out) hb); have n_GE := aM ((by rw [hg]; exact (zZ (zH HB.out))) : w.heap.size ≤ gb8); have n_NAgb1 := aM ((by rw [hg]; exact Nat.ne_of_lt (blk_lt (g := gb1) (o := (.cells #[.int .i64 a0_0, .slice A0_1 l0_1.length c0_1, .slice A0_2 l0_2.length c0_2] 24 (0, 0))) (yH BKgb1.out))) : gb1 ≠ gb8); have n_NAgb4 := aM ((by rw [hg]; exact Nat.ne_of_lt (blk_lt (g := gb4) (o := (.cells #[.int .i64 a1_0, .int .i64 a1_1] 49 (0, 0))) (yH BKgb4.out))) : gb4 ≠ gb8); clear BKgb1 BKgb4 HB; have BKgb1 := n_BKgb1; have BKgb4 := n_BKgb4; have HB := n_HB; clear n_BKgb1 n_BKgb4 n_HB; have BKgb8 := aM hbox; have GEgb8 := n_GE; clear n_GE; have hnegb1_gb8 := n_NAgb1.out; have hnfgb1_gb8 : gb8 ≠ gb1 := fun h => n_NAgb1.out h.symm; clear n_NAgb1; have hnegb4_gb8 := n_NAgb4.out; have hnfgb4_gb8 : gb8 ≠ gb4 := fun h => n_NAgb4.out h.symm; clear n_NAgb4; have hcq10_0 : w_9.cell? ⟨gb1, 0, none⟩ = some (.int .i64 a0_0) := yc BKgb1.out 0; have hfq10_0 := yZ BKgb1.out 0; have hcq10_1 : w_9.cell? ⟨gb1, 1, none⟩ = some (.slice A0_1 l0_1.length c0_1) := yc BKgb1.out 1; have hfq10_1 := yZ BKgb1.out 1; have hcq10_2 : w_9.cell? ⟨gb1, 2, none⟩ = some (.slice A0_2 l0_2.length c0_2) := yc BKgb1.out 2; have hfq10_2 := yZ BKgb1.out 2; have hcq11_0 : w_9.cell? ⟨gb4, 0, none⟩ = some (.int .i64 a1_0) := yc BKgb4.out 0; have hfq11_0 := yZ BKgb4.out 0; have hcq11_1 : w_9.cell? ⟨gb4, 1, none⟩ = some (.int .i64 a1_1) := yc BKgb4.out 1; have hfq11_1 := yZ BKgb4.out 1; have hcq12_0 : w_9.cell? ⟨gb8, 0, none⟩ = some (.int .i64 0) := yc BKgb8.out 0; have hfq12_0 := yZ BKgb8.out 0; have hcq12_1 : w_9.cell? ⟨gb8, 1, none⟩ = some (.slice none 0 0) := yc BKgb8.out 1; have hfq12_1 := yZ BKgb8.out 1; have hcq12_2 : w_9.cell? ⟨gb8, 2, none⟩ = some (.slice none 0 0) := yc BKgb8.out 2; have hfq12_2 := yZ BKgb8.out 2; clear hbox hb hg) | (go_at_call 48; go_loud (refine (impl_Free_isFree.calls k _ _ c0_1 l0_1 _ c0_2 l0_2 _ _ ?s1 HC0_1.out ?s2 HC0_2.out HI.out).mono ?_); (case s1 => exact (cB HR0_1.out (zH HB.out))); (case s2 => exact (cB HR0_2.out (zH HB.out))); rintro e w_13 ⟨v14, rfl, ho15, hb⟩; have n_BKgb1 := aM (yB (g := gb1) (o := (.cells #[.int .i64 a0_0, .slice A0_1 l0_1.length c0_1, .slice A0_2 l0_2.length c0_2] 24 (0, 0))) (yH BKgb1.out) hb); have n_BKgb4 := aM (yB (g := gb4) (o := (.cells #[.int .i64 a1_0, .int .i64 a1_1] 49 (0, 0))) (yH BKgb4.out) hb); have n_BKgb8 := aM (yB (g := gb8) (o := (.cells #[.int .i64 0, .slice none 0 0, .slice none 0 0] 24 (0, 0))) (yH BKgb8.out) hb); have n_HB := aM (zT (zH HB.out) hb); have n_HOho15 := aM (xL ho15 (zZ (zH HB.out))); clear BKgb1 BKgb4 BKgb8 HB; have BKgb1 := n_BKgb1; have BKgb4 := n_BKgb4; have BKgb8 := n_BKgb8; have HB := n_HB; clear n_BKgb1 n_BKgb4 n_BKgb8 n_HB; have HOho15 := n_HOho15; clear n_HOho15 ho15; clear hb; obtain ⟨Aov14, cov14, eov14⟩ := Kd.R_slice HOho15.out; subst eov14; have hcq16_0 : w_13.cell? ⟨gb1, 0, none⟩ = some (.int .i64 a0_0) := yc BKgb1.out 0; have hfq16_0 := yZ BKgb1.out 0; have hcq16_1 : w_13.cell? ⟨gb1, 1, none⟩ = some (.slice A0_1 l0_1.length c0_1) := yc BKgb1.out 1; have hfq16_1 := yZ BKgb1.out 1; have hcq16_2 : w_13.cell? ⟨gb1, 2, none⟩ = some (.slice A0_2 l0_2.length c0_2) := yc BKgb1.out 2; have hfq16_2 := yZ BKgb1.out 2; have hcq17_0 : w_13.cell? ⟨gb4, 0, none⟩ = some (.int .i64 a1_0) := yc BKgb4.out 0; have hfq17_0 := yZ BKgb4.out 0; have hcq17_1 : w_13.cell? ⟨gb4, 1, none⟩ = some (.int .i64 a1_1) := yc BKgb4.out 1; have hfq17_1 := yZ BKgb4.out 1; have hcq18_0 : w_13.cell? ⟨gb8, 0, none⟩ = some (.int .i64 0) := yc BKgb8.out 0; have hfq18_0 := yZ BKgb8.out 0; have hcq18_1 : w_13.cell? ⟨gb8, 1, none⟩ = some (.slice none 0 0) := yc BKgb8.out 1; have hfq18_1 := yZ BKgb8.out 1; have hcq18_2 : w_13.cell? ⟨gb8, 2, none⟩ = some (.slice none 0 0) := yc BKgb8.out 2; have hfq18_2 := yZ BKgb8.out 2) | ((with_reducible refine gate_dst (N := 8) rfl ?_); refine box_event ?hg (N := 8) ?hd (cs := #[.slice none 0 0]) (t := 63) ?hr ?_; (case hd => rfl); (case hg => rfl); (case hr => first | (go_simp; done) | (go_simp; rfl)); intro gb19 hg w_20 hbox hb; have n_HOho15 := aM (xB (xH HOho15.out) hb); have n_BKgb1 := aM (yB (g := gb1) (o := (.cells #[.int .i64 a0_0, .slice A0_1 l0_1.length c0_1, .slice A0_2 l0_2.length c0_2] 24 (0, 0))) (yH BKgb1.out) hb); have n_BKgb4 := aM (yB (g := gb4) (o := (.cells #[.int .i64 a1_0, .int .i64 a1_1] 49 (0, 0))) (yH BKgb4.out) hb); have n_BKgb8 := aM (yB (g := gb8) (o := (.cells #[.int .i64 0, .slice none 0 0, .slice none 0 0] 24 (0, 0))) (yH BKgb8.out) hb); have n_HB := aM (zT (zH HB.out) hb); have n_GE := aM ((by rw [hg]; exact (zZ (zH HB.out))) : w.heap.size ≤ gb19); have n_NAgb1 := aM ((by rw [hg]; exact Nat.ne_of_lt (blk_lt (g := gb1) (o := (.cells #[.int .i64 a0_0, .slice A0_1 l0_1.length c0_1, .slice A0_2 l0_2.length c0_2] 24 (0, 0))) (yH BKgb1.out))) : gb1 ≠ gb19); have n_NAgb4 := aM ((by rw [hg]; exact Nat.ne_of_lt (blk_lt (g := gb4) (o := (.cells #[.int .i64 a1_0, .int .i64 a1_1] 49 (0, 0))) (yH BKgb4.out))) : gb4 ≠ gb19); have n_NAgb8 := aM ((by rw [hg]; exact Nat.ne_of_lt (blk_lt (g := gb8) (o := (.cells #[.int .i64 0, .slice none 0 0, .slice none 0 0] 24 (0, 0))) (yH BKgb8.out))) : gb8 ≠ gb19); clear HOho15 BKgb1 BKgb4 BKgb8 HB; have HOho15 := n_HOho15; have BKgb1 := n_BKgb1; have BKgb4 := n_BKgb4; have BKgb8 := n_BKgb8; have HB := n_HB; clear n_HOho15 n_BKgb1 n_BKgb4 n_BKgb8 n_HB; have BKgb19 := aM hbox; have GEgb19 := n_GE; clear n_GE; have hnegb1_gb19 := n_NAgb1.out; have hnfgb1_gb19 : gb19 ≠ gb1 := fun h => n_NAgb1.out h.symm; clear n_NAgb1; have hnegb4_gb19 := n_NAgb4.out; have hnfgb4_gb19 : gb19 ≠ gb4 := fun h => n_NAgb4.out h.symm; clear n_NAgb4; have hnegb8_gb19 := n_NAgb8.out; have hnfgb8_gb19 : gb19 ≠ gb8 := fun h => n_NAgb8.out h.symm; clear n_NAgb8; have hcq21_0 : w_20.cell? ⟨gb1, 0, none⟩ = some (.int .i64 a0_0) := yc BKgb1.out 0; have hfq21_0 := yZ BKgb1.out 0; have hcq21_1 : w_20.cell? ⟨gb1, 1, none⟩ = some (.slice A0_1 l0_1.length c0_1) := yc BKgb1.out 1; have hfq21_1 := yZ BKgb1.out 1; have hcq21_2 : w_20.cell? ⟨gb1, 2, none⟩ = some (.slice A0_2 l0_2.length c0_2) := yc BKgb1.out 2; have hfq21_2 := yZ BKgb1.out 2; have hcq22_0 : w_20.cell? ⟨gb4, 0, none⟩ = some (.int .i64 a1_0) := yc BKgb4.out 0; have hfq22_0 := yZ BKgb4.out 0; have hcq22_1 : w_20.cell? ⟨gb4, 1, none⟩ = some (.int .i64 a1_1) := yc BKgb4.out 1; have hfq22_1 := yZ BKgb4.out 1; have hcq23_0 : w_20.cell? ⟨gb8, 0, none⟩ = some (.int .i64 0) := yc BKgb8.out 0; have hfq23_0 := yZ BKgb8.out 0; have hcq23_1 : w_20.cell? ⟨gb8, 1, none⟩ = some (.slice none 0 0) := yc BKgb8.out 1; have hfq23_1 := yZ BKgb8.out 1; have hcq23_2 : w_20.cell? ⟨gb8, 2, none⟩ = some (.slice none 0 0) := yc BKgb8.out 2; have hfq23_2 := yZ BKgb8.out 2; have hcq24_0 : w_20.cell? ⟨gb19, 0, none⟩ = some (.slice none 0 0) := yc BKgb19.out 0; have hfq24_0 := yZ BKgb19.out 0; clear hbox hb hg) | ((with_reducible refine gate_store (t := 63) (p := 8) rfl ?_); refine store_event (t := 63) (p := 8) (v := ?vo_w_25) (w1 := (w_20.setCell ⟨gb19, 0, none⟩ (.slice Aov14 t1.length cov14))) ?hg ?ho ?hn ?hr ?_; (case ho => rfl); (case hg => rfl); (case hn => rfl); (case hr => first | (go_simp; done) | (go_simp; rfl)); intro w_25 hw; have n_HOho15 : Aside0 (Kd.R Kd.bool 4 w_25 w.heap.size (fun _ => True) (.slice Aov14 t1.length cov14) (t1)) := ⟨(by rw [hw]; exact (xH (xM (xF (p := ⟨gb19, 0, none⟩) (xT HOho15.out BKgb19.out (by decide)) (fun _ hk => hk.2) (.slice Aov14 t1.length cov14)) (fun _ hk => trivial))))⟩; have n_BKgb1 : Aside0 (w_25.heap[gb1]? = some (.cells #[.int .i64 a0_0, .slice A0_1 l0_1.length c0_1, .slice A0_2 l0_2.length c0_2] 24 (0, 0))) := ⟨(by rw [hw]; exact (by (with_reducible repeat (first | refine yN ?_ _ | refine yD ?_ | refine yA ?_ _)); refine yF ?_ hnegb1_gb19 _; (with_reducible repeat (first | refine yN ?_ _ | refine yD ?_ | refine yA ?_ _)); exact BKgb1.out))⟩; have n_BKgb4 : Aside0 (w_25.heap[gb4]? = some (.cells #[.int .i64 a1_0, .int .i64 a1_1] 49 (0, 0))) := ⟨(by rw [hw]; exact (by (with_reducible repeat (first | refine yN ?_ _ | refine yD ?_ | refine yA ?_ _)); refine yF ?_ hnegb4_gb19 _; (with_reducible repeat (first | refine yN ?_ _ | refine yD ?_ | refine yA ?_ _)); exact BKgb4.out))⟩; have n_BKgb8 : Aside0 (w_25.heap[gb8]? = some (.cells #[.int .i64 0, .slice none 0 0, .slice none 0 0] 24 (0, 0))) := ⟨(by rw [hw]; exact (by (with_reducible repeat (first | refine yN ?_ _ | refine yD ?_ | refine yA ?_ _)); refine yF ?_ hnegb8_gb19 _; (with_reducible repeat (first | refine yN ?_ _ | refine yD ?_ | refine yA ?_ _)); exact BKgb8.out))⟩; have n_BKgb19 : Aside0 (w_25.heap[gb19]? = some (.cells #[.slice Aov14 t1.length cov14] 63 (0, 0))) := ⟨(by rw [hw]; exact (by (with_reducible repeat (first | refine yN ?_ _ | refine yD ?_ | refine yA ?_ _)); refine yP (cs := #[.slice none 0 0]) ?_ 0 _ rfl; (with_reducible repeat (first | refine yN ?_ _ | refine yD ?_ | refine yA ?_ _)); exact BKgb19.out))⟩; have n_HB : Aside0 (Below w.heap.size w w_25) := ⟨(by rw [hw]; exact (zH HB.out))⟩; clear hw; clear HOho15 BKgb1 BKgb4 BKgb8 BKgb19 HB; have HOho15 := n_HOho15; have BKgb1 := n_BKgb1; have BKgb4 := n_BKgb4; have BKgb8 := n_BKgb8; have BKgb19 := n_BKgb19; have HB := n_HB; clear n_HOho15 n_BKgb1 n_BKgb4 n_BKgb8 n_BKgb19 n_HB; have hcq26_0 : w_25.cell? ⟨gb1, 0, none⟩ = some (.int .i64 a0_0) := yc BKgb1.out 0; have hfq26_0 := yZ BKgb1.out 0; have hcq26_1 : w_25.cell? ⟨gb1, 1, none⟩ = some (.slice A0_1 l0_1.length c0_1) := yc BKgb1.out 1; have hfq26_1 := yZ BKgb1.out 1; have hcq26_2 : w_25.cell? ⟨gb1, 2, none⟩ = some (.slice A0_2 l0_2.length c0_2) := yc BKgb1.out 2; have hfq26_2 := yZ BKgb1.out 2; have hcq27_0 : w_25.cell? ⟨gb4, 0, none⟩ = some (.int .i64 a1_0) := yc BKgb4.out 0; have hfq27_0 := yZ BKgb4.out 0; have hcq27_1 : w_25.cell? ⟨gb4, 1, none⟩ = some (.int .i64 a1_1) := yc BKgb4.out 1; have hfq27_1 := yZ BKgb4.out 1; have hcq28_0 : w_25.cell? ⟨gb8, 0, none⟩ = some (.int .i64 0) := yc BKgb8.out 0; have hfq28_0 := yZ BKgb8.out 0; have hcq28_1 : w_25.cell? ⟨gb8, 1, none⟩ = some (.slice none 0 0) := yc BKgb8.out 1; have hfq28_1 := yZ BKgb8.out 1; have hcq28_2 : w_25.cell? ⟨gb8, 2, none⟩ = some (.slice none 0 0) := yc BKgb8.out 2; have hfq28_2 := yZ BKgb8.out 2; have hcq29_0 : w_25.cell? ⟨gb19, 0, none⟩ = some (.slice Aov14 t1.length cov14) := yc BKgb19.out 0; have hfq29_0 := yZ BKgb19.out 0))
 go_loopg [15] k (fun kq v15 w' => ∃ (lq : List Bool) (iq : Int), v15 = .int .i64 iq ∧ Aside0 (impl_Free_changed.chg a2 a1_0 a1_1 kq iq lq = some cr) ∧ Aside0 (kq ≤ k) ∧ Aside0 (Kd.R Kd.bool 4 w' w.heap.size (fun _ => True) (.slice Aov14 t1.length cov14) lq) ∧ Aside0 (w'.heap[gb1]? = some (.cells #[.int .i64 a0_0, .slice A0_1 l0_1.length c0_1, .slice A0_2 l0_2.length c0_2] 24 (0, 0))) ∧ Aside0 (w'.heap[gb4]? = some (.cells #[.int .i64 a1_0, .int .i64 a1_1] 49 (0, 0))) ∧ Aside0 (w'.heap[gb8]? = some (.cells #[.int .i64 0, .slice none 0 0, .slice none 0 0] 24 (0, 0))) ∧ Aside0 (w'.heap[gb19]? = some (.cells #[.slice Aov14 t1.length cov14] 63 (0, 0))) ∧ Aside0 (Below w.heap.size w w'))
 case atStart => exact ⟨t1, 0, rfl, HCH, ⟨Nat.le_refl _⟩, ⟨xH HOho15.out⟩, ⟨yH BKgb1.out⟩, ⟨yH BKgb4.out⟩, ⟨yH BKgb8.out⟩, ⟨yH BKgb19.out⟩, ⟨zH HB.out⟩⟩
 case round =>
  clear HCH HOho15 BKgb1 BKgb4 BKgb8 BKgb19 HB
  (try clear hcq10_0); (try clear hcq10_1); (try clear hcq10_2); (try clear hcq11_0); (try clear hcq11_1); (try clear hcq12_0); (try clear hcq12_1); (try clear hcq12_2); (try clear hcq16_0); (try clear hcq16_1); (try clear hcq16_2); (try clear hcq17_0); (try clear hcq17_1); (try clear hcq18_0); (try clear hcq18_1); (try clear hcq18_2); (try clear hcq21_0); (try clear hcq21_1); (try clear hcq21_2); (try clear hcq22_0); (try clear hcq22_1); (try clear hcq23_0); (try clear hcq23_1); (try clear hcq23_2); (try clear hcq24_0); (try clear hcq26_0); (try clear hcq26_1); (try clear hcq26_2); (try clear hcq27_0); (try clear hcq27_1); (try clear hcq28_0); (try clear hcq28_1); (try clear hcq28_2); (try clear hcq29_0); (try clear hcq3_0); (try clear hcq3_1); (try clear hcq3_2); (try clear hcq6_0); (try clear hcq6_1); (try clear hcq6_2); (try clear hcq7_0); (try clear hcq7_1); (try clear hfq10_0); (try clear hfq10_1); (try clear hfq10_2); (try clear hfq11_0); (try clear hfq11_1); (try clear hfq12_0); (try clear hfq12_1); (try clear hfq12_2); (try clear hfq16_0); (try clear hfq16_1); (try clear hfq16_2); (try clear hfq17_0); (try clear hfq17_1); (try clear hfq18_0); (try clear hfq18_1); (try clear hfq18_2); (try clear hfq21_0); (try clear hfq21_1); (try clear hfq21_2); (try clear hfq22_0); (try clear hfq22_1); (try clear hfq23_0); (try clear hfq23_1); (try clear hfq23_2); (try clear hfq24_0); (try clear hfq26_0); (try clear hfq26_1); (try clear hfq26_2); (try clear hfq27_0); (try clear hfq27_1); (try clear hfq28_0); (try clear hfq28_1); (try clear hfq28_2); (try clear hfq29_0); (try clear hfq3_0); (try clear hfq3_1); (try clear hfq3_2); (try clear hfq6_0); (try clear hfq6_1); (try clear hfq6_2); (try clear hfq7_0); (try clear hfq7_1)
  obtain ⟨lq, iq, rfl, HA, HK1, HOho15, BKgb1, BKgb4, BKgb8, BKgb19, HB⟩ := hrel
  cases gk with
  | zero => exact absurd HA.out (fun h_ => by change none = some _ at h_; cases h_)
  | succ k1 =>
   have H := HA.out
   clear HA
   rw [impl_Free_changed.chg] at H
   by_cases c1 : iq < a1_1
   ·rw [if_pos c1] at H
    have c1b0 : decide (iq < a1_1) = true := decide_eq_true c1
    clear c1
    obtain ⟨ji, hji⟩ : ∃ j_ : Int, wrap64 (a1_0 + iq) = j_ := ⟨_, rfl⟩
    rw [hji] at H
    have hjiw : (IntKind.i64.wrap (a1_0 + iq)) = ji := (i64_w _).trans hji
    by_cases c2 : 0 ≤ ji
    case neg => rw [if_neg c2] at H; cases H
    rw [if_pos c2] at H
    by_cases c3 : ji < (lq.length : Int)
    case neg => rw [if_neg c3] at H; cases H
    rw [if_pos c3] at H
    obtain ⟨go19, co19, eo19, gb19, gl19, cl19, HG19⟩ := Kd.R_form HOho15.out (by omega)
    injection eo19 with ea_ en_ ec_
    subst ea_
    subst ec_
    have GB19 := aM gb19
    clear gb19 gl19 HG19
    rw [← en_] at c3
    obtain ⟨hx19, hf19⟩ := Kd.R_celln false HOho15.out ji c2 c3
    have HP22 := Kd.R_putg HOho15.out ji a2
    clear en_
    have p19 := eq_true c2
    have q19 := eq_true c3
    clear c2 c3
    have hcq34_0 : wr.cell? ⟨gb1, 0, none⟩ = some (.int .i64 a0_0) := yc BKgb1.out 0
    have hfq34_0 := yZ BKgb1.out 0
    have hcq34_1 : wr.cell? ⟨gb1, 1, none⟩ = some (.slice A0_1 l0_1.length c0_1) := yc BKgb1.out 1
    have hfq34_1 := yZ BKgb1.out 1
    have hcq34_2 : wr.cell? ⟨gb1, 2, none⟩ = some (.slice A0_2 l0_2.length c0_2) := yc BKgb1.out 2
    have hfq34_2 := yZ BKgb1.out 2
    have hcq35_0 : wr.cell? ⟨gb4, 0, none⟩ = some (.int .i64 a1_0) := yc BKgb4.out 0
    have hfq35_0 := yZ BKgb4.out 0
    have hcq35_1 : wr.cell? ⟨gb4, 1, none⟩ = some (.int .i64 a1_1) := yc BKgb4.out 1
    have hfq35_1 := yZ BKgb4.out 1
    have hcq36_0 : wr.cell? ⟨gb8, 0, none⟩ = some (.int .i64 0) := yc BKgb8.out 0
    have hfq36_0 := yZ BKgb8.out 0
    have hcq36_1 : wr.cell? ⟨gb8, 1, none⟩ = some (.slice none 0 0) := yc BKgb8.out 1
    have hfq36_1 := yZ BKgb8.out 1
    have hcq36_2 : wr.cell? ⟨gb8, 2, none⟩ = some (.slice none 0 0) := yc BKgb8.out 2
    have hfq36_2 := yZ BKgb8.out 2
    have hcq37_0 : wr.cell? ⟨gb19, 0, none⟩ = some (.slice (some ⟨go19, 0, none⟩) t1.length cov14) := yc BKgb19.out 0
    have hfq37_0 := yZ BKgb19.out 0
    generalize rdOf false lq ji = xq at H hx19
    by_cases c4 : xq = a2
    ·rw [if_pos c4] at H
     obtain rfl := Option.some.inj H
     have HX1 := HX.out
     simp only [Option.some.injEq, Prod.mk.injEq] at HX1
     obtain ⟨rfl, rfl, rfl, rfl⟩ := HX1
     subst c4
     have c4b0 : (xq == xq) = true := beq_self_eq_true _
     clear H HP22
     go_wp2
     refine bodyPost_ret (results_ct rfl _ _ gb8 24 #[.int .i64 0, .slice none 0 0, .slice none 0 0] (0, 0) _ rfl (by (with_reducible repeat (first | refine yN ?_ _ | refine yD ?_ | refine yA ?_ _)); refine yP (cs := #[.int .i64 0, .slice none 0 0, .slice none 0 0]) ?_ 2 _ rfl; (with_reducible repeat (first | refine yN ?_ _ | refine yD ?_ | refine yA ?_ _)); refine yP (cs := #[.int .i64 0, .slice none 0 0, .slice none 0 0]) ?_ 1 _ rfl; (with_reducible repeat (first | refine yN ?_ _ | refine yD ?_ | refine yA ?_ _)); refine yP (cs := #[.int .i64 0, .slice none 0 0, .slice none 0 0]) ?_ 0 _ rfl; (with_reducible repeat (first | refine yN ?_ _ | refine yD ?_ | refine yA ?_ _)); exact BKgb8.out) Try.underlying24 rfl (by kernel_rfl)) rfl ?_
     exact ⟨_, _, rfl, Kd.R_nil _ _ _ _ _, Kd.R_nil _ _ _ _ _, zH HB.out⟩
    ·rw [if_neg c4] at H
     have c4b0 : (xq == a2) = false := beq_eq_false_iff_ne.mpr c4
     have c4b1 : decide (xq = a2) = false := decide_eq_false c4
     have H' := aM H
     clear H c4
     go_wp2_with (first | ((with_reducible refine gate_store (t := 4) (p := 34) rfl ?_); refine store_event (t := 4) (p := 34) (v := ?vo_w23) (w1 := (wr.setCell ⟨go19, ji.toNat, none⟩ (.bool a2))) ?hg ?ho ?hn ?hr ?_; (case ho => rfl); (case hg => rfl); (case hn => rfl); (case hr => first | (go_simp; done) | (go_simp; rfl)); intro w23 hw; have hg : wr.grownBy w23 (some go19) := (by rw [hw]; exact HP22.2); have hp_ : Kd.R Kd.bool 4 w23 w.heap.size (fun _ => True) (.slice (some ⟨go19, 0, none⟩) t1.length cov14) (lq.set ji.toNat a2) := (by rw [hw]; exact HP22.1); clear HP22; have n_HOho15 := aM hp_; have n_BKgb1 := aM (blk_grown (g := gb1) (o := (.cells #[.int .i64 a0_0, .slice A0_1 l0_1.length c0_1, .slice A0_2 l0_2.length c0_2] 24 (0, 0))) (yH BKgb1.out) hg (Kd.R_ne HOho15.out BKgb1.out (by decide))); have n_BKgb4 := aM (blk_grown (g := gb4) (o := (.cells #[.int .i64 a1_0, .int .i64 a1_1] 49 (0, 0))) (yH BKgb4.out) hg (Kd.R_ne HOho15.out BKgb4.out (by decide))); have n_BKgb8 := aM (blk_grown (g := gb8) (o := (.cells #[.int .i64 0, .slice none 0 0, .slice none 0 0] 24 (0, 0))) (yH BKgb8.out) hg (Kd.R_ne HOho15.out BKgb8.out (by decide))); have n_BKgb19 := aM (blk_grown (g := gb19) (o := (.cells #[.slice (some ⟨go19, 0, none⟩) t1.length cov14] 63 (0, 0))) (yH BKgb19.out) hg (Kd.R_ne HOho15.out BKgb19.out (by decide))); have n_HB : Aside0 (Below w.heap.size w w23) := ⟨(by rw [hw]; exact zS HB.out GB19.out)⟩; clear hw hg hp_; clear HOho15 BKgb1 BKgb4 BKgb8 BKgb19 HB; have HOho15 := n_HOho15; have BKgb1 := n_BKgb1; have BKgb4 := n_BKgb4; have BKgb8 := n_BKgb8; have BKgb19 := n_BKgb19; have HB := n_HB; clear n_HOho15 n_BKgb1 n_BKgb4 n_BKgb8 n_BKgb19 n_HB; have hcq34_0 : w23.cell? ⟨gb1, 0, none⟩ = some (.int .i64 a0_0) := yc BKgb1.out 0; have hfq34_0 := yZ BKgb1.out 0; have hcq34_1 : w23.cell? ⟨gb1, 1, none⟩ = some (.slice A0_1 l0_1.length c0_1) := yc BKgb1.out 1; have hfq34_1 := yZ BKgb1.out 1; have hcq34_2 : w23.cell? ⟨gb1, 2, none⟩ = some (.slice A0_2 l0_2.length c0_2) := yc BKgb1.out 2; have hfq34_2 := yZ BKgb1.out 2; have hcq35_0 : w23.cell? ⟨gb4, 0, none⟩ = some (.int .i64 a1_0) := yc BKgb4.out 0; have hfq35_0 := yZ BKgb4.out 0; have hcq35_1 : w23.cell? ⟨gb4, 1, none⟩ = some (.int .i64 a1_1) := yc BKgb4.out 1; have hfq35_1 := yZ BKgb4.out 1; have hcq36_0 : w23.cell? ⟨gb8, 0, none⟩ = some (.int .i64 0) := yc BKgb8.out 0; have hfq36_0 := yZ BKgb8.out 0; have hcq36_1 : w23.cell? ⟨gb8, 1, none⟩ = some (.slice none 0 0) := yc BKgb8.out 1; have hfq36_1 := yZ BKgb8.out 1; have hcq36_2 : w23.cell? ⟨gb8, 2, none⟩ = some (.slice none 0 0) := yc BKgb8.out 2; have hfq36_2 := yZ BKgb8.out 2; have hcq37_0 : w23.cell? ⟨gb19, 0, none⟩ = some (.slice (some ⟨go19, 0, none⟩) t1.length cov14) := yc BKgb19.out 0; have hfq37_0 := yZ BKgb19.out 0))
     go_roundg k1
     case measure => have := HK1.out; omega
     case rel => exact ⟨lq.set ji.toNat a2, wrap64 (iq + 1), by go_num, H', ⟨by have := HK1.out; omega⟩, ⟨xH HOho15.out⟩, ⟨yH BKgb1.out⟩, ⟨yH BKgb4.out⟩, ⟨yH BKgb8.out⟩, ⟨yH BKgb19.out⟩, ⟨zH HB.out⟩⟩
   ·rw [if_neg c1] at H
    have c1b0 : decide (iq < a1_1) = false := decide_eq_false c1
    obtain rfl := Option.some.inj H
    have HX1 := HX.out
    obtain ⟨m, hM, HX2⟩ := Option.bind_eq_some_iff.mp HX1
    clear HX1
    obtain ⟨s, hF, HX3⟩ := Option.bind_eq_some_iff.mp HX2
    clear HX2
    obtain ⟨g, hG, HX1⟩ := Option.bind_eq_some_iff.mp HX3
    clear HX3
    unfold impl_freeOf.f at hF
    split at hF
    case isFalse => cases hF
    rename_i hml
    obtain rfl := Option.some.inj hF
    have HML := aM hml
    have HM := aM hM
    have HG := aM hG
    clear H HX hM hG hF hml c1
    obtain ⟨Aq, cq, eq_⟩ := Kd.R_slice HOho15.out
    injection eq_ with ea_ en_ ec_
    subst ea_
    subst ec_
    have e8 : Aside0 (wr.heap[gb19]? = some (.cells #[.slice Aov14 lq.length cov14] 63 (0, 0))) := ⟨by rw [← en_]; exact BKgb19.out⟩
    clear BKgb19
    have BKgb19 := e8
    clear e8
    replace HOho15 : Aside0 (Kd.R Kd.bool 4 wr w.heap.size (fun _ => True) (.slice Aov14 lq.length cov14) lq) := ⟨by rw [← en_]; exact HOho15.out⟩
    clear en_
    have hcq34_0 : wr.cell? ⟨gb1, 0, none⟩ = some (.int .i64 a0_0) := yc BKgb1.out 0
    have hfq34_0 := yZ BKgb1.out 0
    have hcq34_1 : wr.cell? ⟨gb1, 1, none⟩ = some (.slice A0_1 l0_1.length c0_1) := yc BKgb1.out 1
    have hfq34_1 := yZ BKgb1.out 1
    have hcq34_2 : wr.cell? ⟨gb1, 2, none⟩ = some (.slice A0_2 l0_2.length c0_2) := yc BKgb1.out 2
    have hfq34_2 := yZ BKgb1.out 2
    have hcq35_0 : wr.cell? ⟨gb4, 0, none⟩ = some (.int .i64 a1_0) := yc BKgb4.out 0
    have hfq35_0 := yZ BKgb4.out 0
    have hcq35_1 : wr.cell? ⟨gb4, 1, none⟩ = some (.int .i64 a1_1) := yc BKgb4.out 1
    have hfq35_1 := yZ BKgb4.out 1
    have hcq36_0 : wr.cell? ⟨gb8, 0, none⟩ = some (.int .i64 0) := yc BKgb8.out 0
    have hfq36_0 := yZ BKgb8.out 0
    have hcq36_1 : wr.cell? ⟨gb8, 1, none⟩ = some (.slice none 0 0) := yc BKgb8.out 1
    have hfq36_1 := yZ BKgb8.out 1
    have hcq36_2 : wr.cell? ⟨gb8, 2, none⟩ = some (.slice none 0 0) := yc BKgb8.out 2
    have hfq36_2 := yZ BKgb8.out 2
    have hcq37_0 : wr.cell? ⟨gb19, 0, none⟩ = some (.slice Aov14 lq.length cov14) := yc BKgb19.out 0
    have hfq37_0 := yZ BKgb19.out 0
    go_wp2
    refine start_ (n := 9) (S := fun w' => w'.cell? ⟨gb1, 0, none⟩ = some (.int .i64 a0_0)) (ds := []) #[fF,fF,fF,fF,fF,fF,fF,fF,fF] (by kernel_rfl) rfl rfl (((yC (yD BKgb1.out) 0).trans rfl)) (fun hHeld => ?_)
    refine pure_ (i := 0) (N := some 36) (v := ?_) (a' := ?_) #[tT,fF,fF,fF,fF,fF,fF,fF,fF] rfl rfl (by kernel_rfl) (fun _ _ _ h => h) (Or.inl ⟨by rfl, ?_⟩) ?_ ?_
    rotate_left
    ·intro w'
     go_simp
     with_reducible rfl
    rotate_left
    ·simp only [Act.put, qA, qB, qC, i64_w, i32_w]
     rfl
    refine pure_ (i := 2) (N := some 38) (v := ?_) (a' := ?_) #[tT,fF,tT,fF,fF,fF,fF,fF,fF] rfl rfl (by kernel_rfl) (fun _ _ _ h => h) (Or.inl ⟨by rfl, ?_⟩) ?_ ?_
    rotate_left
    ·intro w'
     go_simp
     with_reducible rfl
    rotate_left
    ·simp only [Act.put, qA, qB, qC, i64_w, i32_w]
     rfl
    refine pure_ (i := 4) (N := some 40) (v := ?_) (a' := ?_) #[tT,fF,tT,fF,tT,fF,fF,fF,fF] rfl rfl (by kernel_rfl) (fun _ _ _ h => h) (Or.inl ⟨by rfl, ?_⟩) ?_ ?_
    rotate_left
    ·intro w'
     go_simp
     with_reducible rfl
    rotate_left
    ·simp only [Act.put, qA, qB, qC, i64_w, i32_w]
     rfl
    refine take_ (i := 1) (N := some 37) (v := ?_) (a' := ?_) #[tT,tT,tT,fF,tT,fF,fF,fF,fF] rfl rfl (by kernel_rfl) (fun _ _ _ h => h) (Or.inl ⟨by rfl, ?_⟩) hHeld ?_ ?_
    rotate_left
    ·intro w' s0
     go_simp
     with_reducible rfl
    rotate_left
    ·simp only [Act.put, qA, qB, qC, i64_w, i32_w]
     rfl
    refine take_ (i := 3) (N := some 39) (v := ?_) (a' := ?_) #[tT,tT,tT,tT,tT,fF,fF,fF,fF] rfl rfl (by kernel_rfl) (fun _ _ _ h => h) (Or.inl ⟨by rfl, ?_⟩) hHeld ?_ ?_
    rotate_left
    ·intro w' s0
     go_simp
     with_reducible rfl
    rotate_left
    ·simp only [Act.put, qA, qB, qC, i64_w, i32_w]
     rfl
    refine join_ (σ := Value × Value × Nat) 1 #[tT,tT,tT,tT,tT,tT,tT,tT,fF] (fun s_ => [(41, s_.1), (42, .agg #[.int .i64 a0_0, s_.1, s_.2.1]), (10, .pointer (some ⟨s_.2.2, 0, none⟩))]) (fun s_ w' => (w'.cell? ⟨gb1, 0, none⟩ = some (.int .i64 a0_0)) ∧ (Kd.R k49 49 w' w.heap.size (fun _ => True) s_.1 m) ∧ (Kd.R k49 49 w' w.heap.size (fun _ => True) s_.2.1 (sortE m)) ∧ (w'.heap[gb1]? = some (.cells #[.int .i64 a0_0, .slice A0_1 l0_1.length c0_1, .slice A0_2 l0_2.length c0_2] 24 (0, 0))) ∧ (w'.heap[gb8]? = some (.cells #[.int .i64 0, .slice none 0 0, .slice none 0 0] 24 (0, 0))) ∧ (w'.heap[s_.2.2]? = some (.cells #[.int .i64 0, .slice none 0 0, .slice none 0 0] 24 (0, 0))) ∧ (w.heap.size ≤ s_.2.2) ∧ (gb1 ≠ s_.2.2) ∧ (gb8 ≠ s_.2.2) ∧ (Below w.heap.size w w') ∧ ((s_.1 : Value).ownBlock = none ∨ (s_.1 : Value).ownBlock ≠ (s_.2.1 : Value).ownBlock)) ?_ ?_
    rotate_left
    ·intro hCont
     refine two_ (i := 5) (j := 7) (Ni := some 41) (Nj := some 10) #[tT,tT,tT,tT,tT,tT,fF,fF,fF] #[tT,tT,tT,tT,tT,fF,fF,tT,fF] rfl rfl rfl rfl (by kernel_rfl) (by decide) (by decide) (fun K hK => ?_) (fun K hK => ?_)
     ·skip
      refine goes_ Try.func49 (by kernel_rfl) rfl #[.int .i64 a0_0, .func (.func 61) #[] #[.pointer (some ⟨gb19, 0, none⟩)]] (by rfl) rfl rfl (by (try simp only [List.map_toArray, List.map_cons, List.map_nil]); first | done | rfl) ?_
      go_loud (refine (impl_merged.calls 61 #[.pointer (some ⟨gb19, 0, none⟩)] (bitP lq) k _ _ _ (enters_of Try.func61 (by kernel_rfl) rfl) (fun x_ b_ W_ hx_ hW_ => impl_Free_changed.clo x_ b_ _ _ lq gb19 W_ (yB (g := gb19) (o := (.cells #[.slice Aov14 lq.length cov14] 63 (0, 0))) (yH BKgb19.out) hW_) (cB (Kd.R_reads' (xH HOho15.out)).2.2 hW_) hx_) HM.out).mono ?_)
      rintro e w_173 ⟨v174, rfl, ho175, hb⟩
      refine ⟨_, rfl, ?_⟩
      have n_HOho15 := aM (xB (xH HOho15.out) hb)
      have n_BKgb1 := aM (yB (g := gb1) (o := (.cells #[.int .i64 a0_0, .slice A0_1 l0_1.length c0_1, .slice A0_2 l0_2.length c0_2] 24 (0, 0))) (yH BKgb1.out) hb)
      have n_BKgb4 := aM (yB (g := gb4) (o := (.cells #[.int .i64 a1_0, .int .i64 a1_1] 49 (0, 0))) (yH BKgb4.out) hb)
      have n_BKgb8 := aM (yB (g := gb8) (o := (.cells #[.int .i64 0, .slice none 0 0, .slice none 0 0] 24 (0, 0))) (yH BKgb8.out) hb)
      have n_BKgb19 := aM (yB (g := gb19) (o := (.cells #[.slice Aov14 lq.length cov14] 63 (0, 0))) (yH BKgb19.out) hb)
      have n_HB := aM (zT (zH HB.out) hb)
      have n_HOho175 := aM (xL ho175 (zZ (zH HB.out)))
      clear HOho15 BKgb1 BKgb4 BKgb8 BKgb19 HB
      have HOho15 := n_HOho15
      have BKgb1 := n_BKgb1
      have BKgb4 := n_BKgb4
      have BKgb8 := n_BKgb8
      have BKgb19 := n_BKgb19
      have HB := n_HB
      clear n_HOho15 n_BKgb1 n_BKgb4 n_BKgb8 n_BKgb19 n_HB
      have HOho175 := n_HOho175
      clear n_HOho175 ho175 hb
      obtain ⟨Aov174, cov174, eov174⟩ := Kd.R_slice HOho175.out
      subst eov174
      refine hK.out _ _ ((yc BKgb1.out 0)) (fun hHeld => ?_)
      clear hK K
      refine norm_ (a' := ?_) ?_ ?_
      rotate_left
      ·show Act.put _ (some 41) _ = _
       simp only [Act.put, qA, qB, qC, i64_w, i32_w]
       rfl
      refine two_ (i := 6) (j := 7) (Ni := some 42) (Nj := some 10) #[tT,tT,tT,tT,tT,tT,tT,fF,fF] #[tT,tT,tT,tT,tT,tT,fF,tT,fF] rfl rfl rfl rfl (by kernel_rfl) (by decide) (by decide) (fun K hK => ?_) (fun K hK => ?_)
      ·skip
       refine goes_ Try.func39 (by kernel_rfl) rfl #[.int .i64 a0_0, .slice Aov174 m.length cov174] (by rfl) rfl rfl (by (try simp only [List.map_toArray, List.map_cons, List.map_nil]); first | done | rfl) ?_
       go_loud (refine (freeOf_any _ _ cov174 m _ ?s1 ?s2 HML.out).mono ?_)
       (case s1 => have q_ := (Kd.R_reads' HOho175.out).2.2; repeat (first | (with_reducible exact q_) | (with_reducible refine cA ?_ _) | (with_reducible refine cN ?_ _) | (with_reducible refine cD ?_) | exact q_))
       (case s2 => exact (Kd.R_reads' HOho175.out).2.1)
       rintro e w_418 ⟨v419, rfl, ho420, hb⟩
       refine ⟨_, rfl, ?_⟩
       have n_HOho15 := aM (xB (xH HOho15.out) hb)
       have n_HOho175 := aM (xB (xH HOho175.out) hb)
       have n_BKgb1 := aM (yB (g := gb1) (o := (.cells #[.int .i64 a0_0, .slice A0_1 l0_1.length c0_1, .slice A0_2 l0_2.length c0_2] 24 (0, 0))) (yH BKgb1.out) hb)
       have n_BKgb4 := aM (yB (g := gb4) (o := (.cells #[.int .i64 a1_0, .int .i64 a1_1] 49 (0, 0))) (yH BKgb4.out) hb)
       have n_BKgb8 := aM (yB (g := gb8) (o := (.cells #[.int .i64 0, .slice none 0 0, .slice none 0 0] 24 (0, 0))) (yH BKgb8.out) hb)
       have n_BKgb19 := aM (yB (g := gb19) (o := (.cells #[.slice Aov14 lq.length cov14] 63 (0, 0))) (yH BKgb19.out) hb)
       have n_HB := aM (zT (zH HB.out) hb)
       have n_HOho420 := aM (xL ho420 (zZ (zH HB.out)))
       have AP := own_apart (Kd.R_lt (xH HOho175.out)) (Kd.R_base ho420)
       clear HOho15 HOho175 BKgb1 BKgb4 BKgb8 BKgb19 HB
       have HOho15 := n_HOho15
       have HOho175 := n_HOho175
       have BKgb1 := n_BKgb1
       have BKgb4 := n_BKgb4
       have BKgb8 := n_BKgb8
       have BKgb19 := n_BKgb19
       have HB := n_HB
       clear n_HOho15 n_HOho175 n_BKgb1 n_BKgb4 n_BKgb8 n_BKgb19 n_HB
       have HOho420 := n_HOho420
       clear n_HOho420 ho420 hb
       obtain ⟨Aov419, cov419, eov419⟩ := Kd.R_slice HOho420.out
       subst eov419
       refine hK.out _ _ ((yc BKgb1.out 0)) (fun hHeld => ?_)
       clear hK K
       refine norm_ (a' := ?_) ?_ ?_
       rotate_left
       ·show Act.put _ (some 42) _ = _
        simp only [Act.put, qA, qB, qC, i64_w, i32_w]
        rfl
       refine one_ (i := 7) (N := some 10) #[tT,tT,tT,tT,tT,tT,tT,tT,fF] rfl rfl (by kernel_rfl) (by decide) (fun K hK => ?_)
       refine box_step ?hg (N := 10) ?hd (cs := #[.int .i64 0, .slice none 0 0, .slice none 0 0]) (t := 24) ?hr ?_
       (case hd => rfl)
       (case hg => rfl)
       (case hr => first | (go_simp; done) | (go_simp; rfl))
       intro gb770 hg w_771 hbox hb
       have n_HOho15 := aM (xB (xH HOho15.out) hb)
       have n_HOho175 := aM (xB (xH HOho175.out) hb)
       have n_HOho420 := aM (xB (xH HOho420.out) hb)
       have n_BKgb1 := aM (yB (g := gb1) (o := (.cells #[.int .i64 a0_0, .slice A0_1 l0_1.length c0_1, .slice A0_2 l0_2.length c0_2] 24 (0, 0))) (yH BKgb1.out) hb)
       have n_BKgb4 := aM (yB (g := gb4) (o := (.cells #[.int .i64 a1_0, .int .i64 a1_1] 49 (0, 0))) (yH BKgb4.out) hb)
       have n_BKgb8 := aM (yB (g := gb8) (o := (.cells #[.int .i64 0, .slice none 0 0, .slice none 0 0] 24 (0, 0))) (yH BKgb8.out) hb)
       have n_BKgb19 := aM (yB (g := gb19) (o := (.cells #[.slice Aov14 lq.length cov14] 63 (0, 0))) (yH BKgb19.out) hb)
       have n_HB := aM (zT (zH HB.out) hb)
       have n_GE := aM ((by rw [hg]; exact (zZ (zH HB.out))) : w.heap.size ≤ gb770)
       have n_NAgb1 := aM ((by rw [hg]; exact Nat.ne_of_lt (blk_lt (g := gb1) (o := (.cells #[.int .i64 a0_0, .slice A0_1 l0_1.length c0_1, .slice A0_2 l0_2.length c0_2] 24 (0, 0))) (yH BKgb1.out))) : gb1 ≠ gb770)
       have n_NAgb4 := aM ((by rw [hg]; exact Nat.ne_of_lt (blk_lt (g := gb4) (o := (.cells #[.int .i64 a1_0, .int .i64 a1_1] 49 (0, 0))) (yH BKgb4.out))) : gb4 ≠ gb770)
       have n_NAgb8 := aM ((by rw [hg]; exact Nat.ne_of_lt (blk_lt (g := gb8) (o := (.cells #[.int .i64 0, .slice none 0 0, .slice none 0 0] 24 (0, 0))) (yH BKgb8.out))) : gb8 ≠ gb770)
       have n_NAgb19 := aM ((by rw [hg]; exact Nat.ne_of_lt (blk_lt (g := gb19) (o := (.cells #[.slice Aov14 lq.length cov14] 63 (0, 0))) (yH BKgb19.out))) : gb19 ≠ gb770)
       clear HOho15 HOho175 HOho420 BKgb1 BKgb4 BKgb8 BKgb19 HB
       have HOho15 := n_HOho15
       have HOho175 := n_HOho175
       have HOho420 := n_HOho420
       have BKgb1 := n_BKgb1
       have BKgb4 := n_BKgb4
       have BKgb8 := n_BKgb8
       have BKgb19 := n_BKgb19
       have HB := n_HB
       clear n_HOho15 n_HOho175 n_HOho420 n_BKgb1 n_BKgb4 n_BKgb8 n_BKgb19 n_HB
       have BKgb770 := aM hbox
       have GEgb770 := n_GE
       clear n_GE
       have hnegb1_gb770 := n_NAgb1.out
       have hnfgb1_gb770 : gb770 ≠ gb1 := fun h => n_NAgb1.out h.symm
       clear n_NAgb1
       have hnegb4_gb770 := n_NAgb4.out
       have hnfgb4_gb770 : gb770 ≠ gb4 := fun h => n_NAgb4.out h.symm
       clear n_NAgb4
       have hnegb8_gb770 := n_NAgb8.out
       have hnfgb8_gb770 : gb770 ≠ gb8 := fun h => n_NAgb8.out h.symm
       clear n_NAgb8
       have hnegb19_gb770 := n_NAgb19.out
       have hnfgb19_gb770 : gb770 ≠ gb19 := fun h => n_NAgb19.out h.symm
       clear n_NAgb19 hbox hb hg
       refine hK.out _ _ ((yc BKgb1.out 0)) (fun hHeld => ?_)
       clear hK K
       refine norm_ (a' := ?_) ?_ ?_
       rotate_left
       ·show Act.put _ (some 10) _ = _
        simp only [Act.put, qA, qB, qC, i64_w, i32_w]
        rfl
       exact norm_ (by simp only [putAll, Act.put, qA, qB, qC]) (hCont ((.slice Aov174 m.length cov174), (.slice Aov419 (sortE m).length cov419), gb770) _ ⟨hHeld, (xH HOho175.out), (xH HOho420.out), (yH BKgb1.out), (yH BKgb8.out), (yH BKgb770.out), GEgb770.out, hnegb1_gb770, hnegb8_gb770, (zH HB.out), AP⟩)
      ·skip
       refine box_step ?hg (N := 10) ?hd (cs := #[.int .i64 0, .slice none 0 0, .slice none 0 0]) (t := 24) ?hr ?_
       (case hd => rfl)
       (case hg => rfl)
       (case hr => first | (go_simp; done) | (go_simp; rfl))
       intro gb425 hg w_426 hbox hb
       have n_HOho15 := aM (xB (xH HOho15.out) hb)
       have n_HOho175 := aM (xB (xH HOho175.out) hb)
       have n_BKgb1 := aM (yB (g := gb1) (o := (.cells #[.int .i64 a0_0, .slice A0_1 l0_1.length c0_1, .slice A0_2 l0_2.length c0_2] 24 (0, 0))) (yH BKgb1.out) hb)
       have n_BKgb4 := aM (yB (g := gb4) (o := (.cells #[.int .i64 a1_0, .int .i64 a1_1] 49 (0, 0))) (yH BKgb4.out) hb)
       have n_BKgb8 := aM (yB (g := gb8) (o := (.cells #[.int .i64 0, .slice none 0 0, .slice none 0 0] 24 (0, 0))) (yH BKgb8.out) hb)
       have n_BKgb19 := aM (yB (g := gb19) (o := (.cells #[.slice Aov14 lq.length cov14] 63 (0, 0))) (yH BKgb19.out) hb)
       have n_HB := aM (zT (zH HB.out) hb)
       have n_GE := aM ((by rw [hg]; exact (zZ (zH HB.out))) : w.heap.size ≤ gb425)
       have n_NAgb1 := aM ((by rw [hg]; exact Nat.ne_of_lt (blk_lt (g := gb1) (o := (.cells #[.int .i64 a0_0, .slice A0_1 l0_1.length c0_1, .slice A0_2 l0_2.length c0_2] 24 (0, 0))) (yH BKgb1.out))) : gb1 ≠ gb425)
       have n_NAgb4 := aM ((by rw [hg]; exact Nat.ne_of_lt (blk_lt (g := gb4) (o := (.cells #[.int .i64 a1_0, .int .i64 a1_1] 49 (0, 0))) (yH BKgb4.out))) : gb4 ≠ gb425)
       have n_NAgb8 := aM ((by rw [hg]; exact Nat.ne_of_lt (blk_lt (g := gb8) (o := (.cells #[.int .i64 0, .slice none 0 0, .slice none 0 0] 24 (0, 0))) (yH BKgb8.out))) : gb8 ≠ gb425)
       have n_NAgb19 := aM ((by rw [hg]; exact Nat.ne_of_lt (blk_lt (g := gb19) (o := (.cells #[.slice Aov14 lq.length cov14] 63 (0, 0))) (yH BKgb19.out))) : gb19 ≠ gb425)
       clear HOho15 HOho175 BKgb1 BKgb4 BKgb8 BKgb19 HB
       have HOho15 := n_HOho15
       have HOho175 := n_HOho175
       have BKgb1 := n_BKgb1
       have BKgb4 := n_BKgb4
       have BKgb8 := n_BKgb8
       have BKgb19 := n_BKgb19
       have HB := n_HB
       clear n_HOho15 n_HOho175 n_BKgb1 n_BKgb4 n_BKgb8 n_BKgb19 n_HB
       have BKgb425 := aM hbox
       have GEgb425 := n_GE
       clear n_GE
       have hnegb1_gb425 := n_NAgb1.out
       have hnfgb1_gb425 : gb425 ≠ gb1 := fun h => n_NAgb1.out h.symm
       clear n_NAgb1
       have hnegb4_gb425 := n_NAgb4.out
       have hnfgb4_gb425 : gb425 ≠ gb4 := fun h => n_NAgb4.out h.symm
       clear n_NAgb4
       have hnegb8_gb425 := n_NAgb8.out
       have hnfgb8_gb425 : gb425 ≠ gb8 := fun h => n_NAgb8.out h.symm
       clear n_NAgb8
       have hnegb19_gb425 := n_NAgb19.out
       have hnfgb19_gb425 : gb425 ≠ gb19 := fun h => n_NAgb19.out h.symm
       clear n_NAgb19 hbox hb hg
       refine hK.out _ _ ((yc BKgb1.out 0)) (fun hHeld => ?_)
       clear hK K
       refine norm_ (a' := ?_) ?_ ?_
       rotate_left
       ·show Act.put _ (some 10) _ = _
        simp only [Act.put, qA, qB, qC, i64_w, i32_w]
        rfl
       refine one_ (i := 6) (N := some 42) #[tT,tT,tT,tT,tT,tT,tT,tT,fF] rfl rfl (by kernel_rfl) (by decide) (fun K hK => ?_)
       refine goes_ Try.func39 (by kernel_rfl) rfl #[.int .i64 a0_0, .slice Aov174 m.length cov174] (by rfl) rfl rfl (by (try simp only [List.map_toArray, List.map_cons, List.map_nil]); first | done | rfl) ?_
       go_loud (refine (freeOf_any _ _ cov174 m _ ?s1 ?s2 HML.out).mono ?_)
       (case s1 => have q_ := (Kd.R_reads' HOho175.out).2.2; repeat (first | (with_reducible exact q_) | (with_reducible refine cA ?_ _) | (with_reducible refine cN ?_ _) | (with_reducible refine cD ?_) | exact q_))
       (case s2 => exact (Kd.R_reads' HOho175.out).2.1)
       rintro e w_769 ⟨v770, rfl, ho771, hb⟩
       refine ⟨_, rfl, ?_⟩
       have n_HOho15 := aM (xB (xH HOho15.out) hb)
       have n_HOho175 := aM (xB (xH HOho175.out) hb)
       have n_BKgb1 := aM (yB (g := gb1) (o := (.cells #[.int .i64 a0_0, .slice A0_1 l0_1.length c0_1, .slice A0_2 l0_2.length c0_2] 24 (0, 0))) (yH BKgb1.out) hb)
       have n_BKgb4 := aM (yB (g := gb4) (o := (.cells #[.int .i64 a1_0, .int .i64 a1_1] 49 (0, 0))) (yH BKgb4.out) hb)
       have n_BKgb8 := aM (yB (g := gb8) (o := (.cells #[.int .i64 0, .slice none 0 0, .slice none 0 0] 24 (0, 0))) (yH BKgb8.out) hb)
       have n_BKgb19 := aM (yB (g := gb19) (o := (.cells #[.slice Aov14 lq.length cov14] 63 (0, 0))) (yH BKgb19.out) hb)
       have n_BKgb425 := aM (yB (g := gb425) (o := (.cells #[.int .i64 0, .slice none 0 0, .slice none 0 0] 24 (0, 0))) (yH BKgb425.out) hb)
       have n_HB := aM (zT (zH HB.out) hb)
       have n_HOho771 := aM (xL ho771 (zZ (zH HB.out)))
       have AP := own_apart (Kd.R_lt (xH HOho175.out)) (Kd.R_base ho771)
       clear HOho15 HOho175 BKgb1 BKgb4 BKgb8 BKgb19 BKgb425 HB
       have HOho15 := n_HOho15
       have HOho175 := n_HOho175
       have BKgb1 := n_BKgb1
       have BKgb4 := n_BKgb4
       have BKgb8 := n_BKgb8
       have BKgb19 := n_BKgb19
       have BKgb425 := n_BKgb425
       have HB := n_HB
       clear n_HOho15 n_HOho175 n_BKgb1 n_BKgb4 n_BKgb8 n_BKgb19 n_BKgb425 n_HB
       have HOho771 := n_HOho771
       clear n_HOho771 ho771 hb
       obtain ⟨Aov770, cov770, eov770⟩ := Kd.R_slice HOho771.out
       subst eov770
       refine hK.out _ _ ((yc BKgb1.out 0)) (fun hHeld => ?_)
       clear hK K
       refine norm_ (a' := ?_) ?_ ?_
       rotate_left
       ·show Act.put _ (some 42) _ = _
        simp only [Act.put, qA, qB, qC, i64_w, i32_w]
        rfl
       exact norm_ (by simp only [putAll, Act.put, qA, qB, qC]) (hCont ((.slice Aov174 m.length cov174), (.slice Aov770 (sortE m).length cov770), gb425) _ ⟨hHeld, (xH HOho175.out), (xH HOho771.out), (yH BKgb1.out), (yH BKgb8.out), (yH BKgb425.out), GEgb425.out, hnegb1_gb425, hnegb8_gb425, (zH HB.out), AP⟩)
     ·skip
      refine box_step ?hg (N := 10) ?hd (cs := #[.int .i64 0, .slice none 0 0, .slice none 0 0]) (t := 24) ?hr ?_
      (case hd => rfl)
      (case hg => rfl)
      (case hr => first | (go_simp; done) | (go_simp; rfl))
      intro gb187 hg w_188 hbox hb
      have n_HOho15 := aM (xB (xH HOho15.out) hb)
      have n_BKgb1 := aM (yB (g := gb1) (o := (.cells #[.int .i64 a0_0, .slice A0_1 l0_1.length c0_1, .slice A0_2 l0_2.length c0_2] 24 (0, 0))) (yH BKgb1.out) hb)
      have n_BKgb4 := aM (yB (g := gb4) (o := (.cells #[.int .i64 a1_0, .int .i64 a1_1] 49 (0, 0))) (yH BKgb4.out) hb)
      have n_BKgb8 := aM (yB (g := gb8) (o := (.cells #[.int .i64 0, .slice none 0 0, .slice none 0 0] 24 (0, 0))) (yH BKgb8.out) hb)
      have n_BKgb19 := aM (yB (g := gb19) (o := (.cells #[.slice Aov14 lq.length cov14] 63 (0, 0))) (yH BKgb19.out) hb)
      have n_HB := aM (zT (zH HB.out) hb)
      have n_GE := aM ((by rw [hg]; exact (zZ (zH HB.out))) : w.heap.size ≤ gb187)
      have n_NAgb1 := aM ((by rw [hg]; exact Nat.ne_of_lt (blk_lt (g := gb1) (o := (.cells #[.int .i64 a0_0, .slice A0_1 l0_1.length c0_1, .slice A0_2 l0_2.length c0_2] 24 (0, 0))) (yH BKgb1.out))) : gb1 ≠ gb187)
      have n_NAgb4 := aM ((by rw [hg]; exact Nat.ne_of_lt (blk_lt (g := gb4) (o := (.cells #[.int .i64 a1_0, .int .i64 a1_1] 49 (0, 0))) (yH BKgb4.out))) : gb4 ≠ gb187)
      have n_NAgb8 := aM ((by rw [hg]; exact Nat.ne_of_lt (blk_lt (g := gb8) (o := (.cells #[.int .i64 0, .slice none 0 0, .slice none 0 0] 24 (0, 0))) (yH BKgb8.out))) : gb8 ≠ gb187)
      have n_NAgb19 := aM ((by rw [hg]; exact Nat.ne_of_lt (blk_lt (g := gb19) (o := (.cells #[.slice Aov14 lq.length cov14] 63 (0, 0))) (yH BKgb19.out))) : gb19 ≠ gb187)
      clear HOho15 BKgb1 BKgb4 BKgb8 BKgb19 HB
      have HOho15 := n_HOho15
      have BKgb1 := n_BKgb1
      have BKgb4 := n_BKgb4
      have BKgb8 := n_BKgb8
      have BKgb19 := n_BKgb19
      have HB := n_HB
      clear n_HOho15 n_BKgb1 n_BKgb4 n_BKgb8 n_BKgb19 n_HB
      have BKgb187 := aM hbox
      have GEgb187 := n_GE
      clear n_GE
      have hnegb1_gb187 := n_NAgb1.out
      have hnfgb1_gb187 : gb187 ≠ gb1 := fun h => n_NAgb1.out h.symm
      clear n_NAgb1
      have hnegb4_gb187 := n_NAgb4.out
      have hnfgb4_gb187 : gb187 ≠ gb4 := fun h => n_NAgb4.out h.symm
      clear n_NAgb4
      have hnegb8_gb187 := n_NAgb8.out
      have hnfgb8_gb187 : gb187 ≠ gb8 := fun h => n_NAgb8.out h.symm
      clear n_NAgb8
      have hnegb19_gb187 := n_NAgb19.out
      have hnfgb19_gb187 : gb187 ≠ gb19 := fun h => n_NAgb19.out h.symm
      clear n_NAgb19 hbox hb hg
      refine hK.out _ _ ((yc BKgb1.out 0)) (fun hHeld => ?_)
      clear hK K
      refine norm_ (a' := ?_) ?_ ?_
      rotate_left
      ·show Act.put _ (some 10) _ = _
       simp only [Act.put, qA, qB, qC, i64_w, i32_w]
       rfl
      refine one_ (i := 5) (N := some 41) #[tT,tT,tT,tT,tT,tT,fF,tT,fF] rfl rfl (by kernel_rfl) (by decide) (fun K hK => ?_)
      refine goes_ Try.func49 (by kernel_rfl) rfl #[.int .i64 a0_0, .func (.func 61) #[] #[.pointer (some ⟨gb19, 0, none⟩)]] (by rfl) rfl rfl (by (try simp only [List.map_toArray, List.map_cons, List.map_nil]); first | done | rfl) ?_
      go_loud (refine (impl_merged.calls 61 #[.pointer (some ⟨gb19, 0, none⟩)] (bitP lq) k _ _ _ (enters_of Try.func61 (by kernel_rfl) rfl) (fun x_ b_ W_ hx_ hW_ => impl_Free_changed.clo x_ b_ _ _ lq gb19 W_ (yB (g := gb19) (o := (.cells #[.slice Aov14 lq.length cov14] 63 (0, 0))) (yH BKgb19.out) hW_) (cB (Kd.R_reads' (xH HOho15.out)).2.2 hW_) hx_) HM.out).mono ?_)
      rintro e w_424 ⟨v425, rfl, ho426, hb⟩
      refine ⟨_, rfl, ?_⟩
      have n_HOho15 := aM (xB (xH HOho15.out) hb)
      have n_BKgb1 := aM (yB (g := gb1) (o := (.cells #[.int .i64 a0_0, .slice A0_1 l0_1.length c0_1, .slice A0_2 l0_2.length c0_2] 24 (0, 0))) (yH BKgb1.out) hb)
      have n_BKgb4 := aM (yB (g := gb4) (o := (.cells #[.int .i64 a1_0, .int .i64 a1_1] 49 (0, 0))) (yH BKgb4.out) hb)
      have n_BKgb8 := aM (yB (g := gb8) (o := (.cells #[.int .i64 0, .slice none 0 0, .slice none 0 0] 24 (0, 0))) (yH BKgb8.out) hb)
      have n_BKgb19 := aM (yB (g := gb19) (o := (.cells #[.slice Aov14 lq.length cov14] 63 (0, 0))) (yH BKgb19.out) hb)
      have n_BKgb187 := aM (yB (g := gb187) (o := (.cells #[.int .i64 0, .slice none 0 0, .slice none 0 0] 24 (0, 0))) (yH BKgb187.out) hb)
      have n_HB := aM (zT (zH HB.out) hb)
      have n_HOho426 := aM (xL ho426 (zZ (zH HB.out)))
      clear HOho15 BKgb1 BKgb4 BKgb8 BKgb19 BKgb187 HB
      have HOho15 := n_HOho15
      have BKgb1 := n_BKgb1
      have BKgb4 := n_BKgb4
      have BKgb8 := n_BKgb8
      have BKgb19 := n_BKgb19
      have BKgb187 := n_BKgb187
      have HB := n_HB
      clear n_HOho15 n_BKgb1 n_BKgb4 n_BKgb8 n_BKgb19 n_BKgb187 n_HB
      have HOho426 := n_HOho426
      clear n_HOho426 ho426 hb
      obtain ⟨Aov425, cov425, eov425⟩ := Kd.R_slice HOho426.out
      subst eov425
      refine hK.out _ _ ((yc BKgb1.out 0)) (fun hHeld => ?_)
      clear hK K
      refine norm_ (a' := ?_) ?_ ?_
      rotate_left
      ·show Act.put _ (some 41) _ = _
       simp only [Act.put, qA, qB, qC, i64_w, i32_w]
       rfl
      refine one_ (i := 6) (N := some 42) #[tT,tT,tT,tT,tT,tT,tT,tT,fF] rfl rfl (by kernel_rfl) (by decide) (fun K hK => ?_)
      refine goes_ Try.func39 (by kernel_rfl) rfl #[.int .i64 a0_0, .slice Aov425 m.length cov425] (by rfl) rfl rfl (by (try simp only [List.map_toArray, List.map_cons, List.map_nil]); first | done | rfl) ?_
      go_loud (refine (freeOf_any _ _ cov425 m _ ?s1 ?s2 HML.out).mono ?_)
      (case s1 => have q_ := (Kd.R_reads' HOho426.out).2.2; repeat (first | (with_reducible exact q_) | (with_reducible refine cA ?_ _) | (with_reducible refine cN ?_ _) | (with_reducible refine cD ?_) | exact q_))
      (case s2 => exact (Kd.R_reads' HOho426.out).2.1)
      rintro e w_769 ⟨v770, rfl, ho771, hb⟩
      refine ⟨_, rfl, ?_⟩
      have n_HOho15 := aM (xB (xH HOho15.out) hb)
      have n_HOho426 := aM (xB (xH HOho426.out) hb)
      have n_BKgb1 := aM (yB (g := gb1) (o := (.cells #[.int .i64 a0_0, .slice A0_1 l0_1.length c0_1, .slice A0_2 l0_2.length c0_2] 24 (0, 0))) (yH BKgb1.out) hb)
      have n_BKgb4 := aM (yB (g := gb4) (o := (.cells #[.int .i64 a1_0, .int .i64 a1_1] 49 (0, 0))) (yH BKgb4.out) hb)
      have n_BKgb8 := aM (yB (g := gb8) (o := (.cells #[.int .i64 0, .slice none 0 0, .slice none 0 0] 24 (0, 0))) (yH BKgb8.out) hb)
      have n_BKgb19 := aM (yB (g := gb19) (o := (.cells #[.slice Aov14 lq.length cov14] 63 (0, 0))) (yH BKgb19.out) hb)
      have n_BKgb187 := aM (yB (g := gb187) (o := (.cells #[.int .i64 0, .slice none 0 0, .slice none 0 0] 24 (0, 0))) (yH BKgb187.out) hb)
      have n_HB := aM (zT (zH HB.out) hb)
      have n_HOho771 := aM (xL ho771 (zZ (zH HB.out)))
      have AP := own_apart (Kd.R_lt (xH HOho426.out)) (Kd.R_base ho771)
      clear HOho15 HOho426 BKgb1 BKgb4 BKgb8 BKgb19 BKgb187 HB
      have HOho15 := n_HOho15
      have HOho426 := n_HOho426
      have BKgb1 := n_BKgb1
      have BKgb4 := n_BKgb4
      have BKgb8 := n_BKgb8
      have BKgb19 := n_BKgb19
      have BKgb187 := n_BKgb187
      have HB := n_HB
      clear n_HOho15 n_HOho426 n_BKgb1 n_BKgb4 n_BKgb8 n_BKgb19 n_BKgb187 n_HB
      have HOho771 := n_HOho771
      clear n_HOho771 ho771 hb
      obtain ⟨Aov770, cov770, eov770⟩ := Kd.R_slice HOho771.out
      subst eov770
      refine hK.out _ _ ((yc BKgb1.out 0)) (fun hHeld => ?_)
      clear hK K
      refine norm_ (a' := ?_) ?_ ?_
      rotate_left
      ·show Act.put _ (some 42) _ = _
       simp only [Act.put, qA, qB, qC, i64_w, i32_w]
       rfl
      exact norm_ (by simp only [putAll, Act.put, qA, qB, qC]) (hCont ((.slice Aov425 m.length cov425), (.slice Aov770 (sortE m).length cov770), gb187) _ ⟨hHeld, (xH HOho426.out), (xH HOho771.out), (yH BKgb1.out), (yH BKgb8.out), (yH BKgb187.out), GEgb187.out, hnegb1_gb187, hnegb8_gb187, (zH HB.out), AP⟩)
    rintro ⟨vm, vs, gbE⟩ wE ⟨hHeld, hm_, hs_, h3_, h6_, h10_, hge_, hn3_, hn6_, hb_, AP_⟩
    have hHeld : wE.cell? ⟨gb1, 0, none⟩ = some (.int .i64 a0_0) := hHeld
    have AP : (vm : Value).ownBlock = none ∨ (vm : Value).ownBlock ≠ (vs : Value).ownBlock := AP_
    clear AP_
    have hm_ : Kd.R k49 49 wE w.heap.size (fun _ => True) vm m := hm_
    have hs_ : Kd.R k49 49 wE w.heap.size (fun _ => True) vs (sortE m) := hs_
    obtain ⟨Am, cm, em⟩ := Kd.R_slice hm_
    subst em
    obtain ⟨As, cs, es⟩ := Kd.R_slice hs_
    subst es
    clear HOho15 HB BKgb1 BKgb4 BKgb8 BKgb19
    have HOm := aM hm_
    have HOs := aM hs_
    have BKgb1 : Aside0 (wE.heap[gb1]? = some (.cells #[.int .i64 a0_0, .slice A0_1 l0_1.length c0_1, .slice A0_2 l0_2.length c0_2] 24 (0, 0))) := ⟨h3_⟩
    have BKgb8 : Aside0 (wE.heap[gb8]? = some (.cells #[.int .i64 0, .slice none 0 0, .slice none 0 0] 24 (0, 0))) := ⟨h6_⟩
    have BKgbE : Aside0 (wE.heap[gbE]? = some (.cells #[.int .i64 0, .slice none 0 0, .slice none 0 0] 24 (0, 0))) := ⟨h10_⟩
    have GEgbE : Aside0 (w.heap.size ≤ gbE) := ⟨hge_⟩
    have hnegb1_gbE : gb1 ≠ gbE := hn3_
    have hnegb8_gbE : gb8 ≠ gbE := hn6_
    have hnfgb1_gbE : gbE ≠ gb1 := fun h => hn3_ h.symm
    have hnfgb8_gbE : gbE ≠ gb8 := fun h => hn6_ h.symm
    have HB : Aside0 (Below w.heap.size w wE) := ⟨hb_⟩
    clear hm_ hs_ h3_ h6_ h10_ hge_ hn3_ hn6_ hb_
    have hcq901_0 : wE.cell? ⟨gbE, 0, none⟩ = some (.int .i64 0) := yc BKgbE.out 0
    have hfq901_0 := yZ BKgbE.out 0
    have hcq901_1 : wE.cell? ⟨gbE, 1, none⟩ = some (.slice none 0 0) := yc BKgbE.out 1
    have hfq901_1 := yZ BKgbE.out 1
    have hcq901_2 : wE.cell? ⟨gbE, 2, none⟩ = some (.slice none 0 0) := yc BKgbE.out 2
    have hfq901_2 := yZ BKgbE.out 2
    refine norm_ (a' := ?_) ?_ ?_
    rotate_left
    ·simp only [putAll, Act.put, qA, qB, qC]
     rfl
    refine one_ (i := 8) (N := none) #[tT,tT,tT,tT,tT,tT,tT,tT,tT] rfl rfl (by kernel_rfl) (by decide) (fun K hK => ?_)
    refine skip_ (w1 := ?_) (by rfl) rfl ?_ ?_
    rotate_left
    ·go_simp
     rfl
    obtain ⟨w_901, hw⟩ : ∃ w5_ : World, w5_ = (((wE.setCell ⟨gbE, 0, none⟩ (.int .i64 a0_0)).setCell ⟨gbE, 1, none⟩ (.slice Am m.length cm)).setCell ⟨gbE, 2, none⟩ (.slice As (sortE m).length cs)) := ⟨_, rfl⟩
    rw [← hw]
    have n_HOm : Aside0 (Kd.R k49 49 w_901 w.heap.size (fun _ => True) (.slice Am m.length cm) (m)) := ⟨(by rw [hw]; exact (xH (xM (xF (p := ⟨gbE, 2, none⟩) (xF (p := ⟨gbE, 1, none⟩) (xF (p := ⟨gbE, 0, none⟩) (xT HOm.out BKgbE.out (by decide)) (fun _ hk => hk.2) (.int .i64 a0_0)) (fun _ hk => hk.2) (.slice Am m.length cm)) (fun _ hk => hk.2) (.slice As (sortE m).length cs)) (fun _ hk => trivial))))⟩
    have n_HOs : Aside0 (Kd.R k49 49 w_901 w.heap.size (fun _ => True) (.slice As (sortE m).length cs) (sortE m)) := ⟨(by rw [hw]; exact (xH (xM (xF (p := ⟨gbE, 2, none⟩) (xF (p := ⟨gbE, 1, none⟩) (xF (p := ⟨gbE, 0, none⟩) (xT HOs.out BKgbE.out (by decide)) (fun _ hk => hk.2) (.int .i64 a0_0)) (fun _ hk => hk.2) (.slice Am m.length cm)) (fun _ hk => hk.2) (.slice As (sortE m).length cs)) (fun _ hk => trivial))))⟩
    have n_BKgb1 : Aside0 (w_901.heap[gb1]? = some (.cells #[.int .i64 a0_0, .slice A0_1 l0_1.length c0_1, .slice A0_2 l0_2.length c0_2] 24 (0, 0))) := ⟨(by rw [hw]; exact (by (with_reducible repeat (first | refine yN ?_ _ | refine yD ?_ | refine yA ?_ _)); refine yF ?_ hnegb1_gbE _; (with_reducible repeat (first | refine yN ?_ _ | refine yD ?_ | refine yA ?_ _)); refine yF ?_ hnegb1_gbE _; (with_reducible repeat (first | refine yN ?_ _ | refine yD ?_ | refine yA ?_ _)); refine yF ?_ hnegb1_gbE _; (with_reducible repeat (first | refine yN ?_ _ | refine yD ?_ | refine yA ?_ _)); exact BKgb1.out))⟩
    have n_BKgb8 : Aside0 (w_901.heap[gb8]? = some (.cells #[.int .i64 0, .slice none 0 0, .slice none 0 0] 24 (0, 0))) := ⟨(by rw [hw]; exact (by (with_reducible repeat (first | refine yN ?_ _ | refine yD ?_ | refine yA ?_ _)); refine yF ?_ hnegb8_gbE _; (with_reducible repeat (first | refine yN ?_ _ | refine yD ?_ | refine yA ?_ _)); refine yF ?_ hnegb8_gbE _; (with_reducible repeat (first | refine yN ?_ _ | refine yD ?_ | refine yA ?_ _)); refine yF ?_ hnegb8_gbE _; (with_reducible repeat (first | refine yN ?_ _ | refine yD ?_ | refine yA ?_ _)); exact BKgb8.out))⟩
    have n_BKgbE : Aside0 (w_901.heap[gbE]? = some (.cells #[.int .i64 a0_0, .slice Am m.length cm, .slice As (sortE m).length cs] 24 (0, 0))) := ⟨(by rw [hw]; exact (by (with_reducible repeat (first | refine yN ?_ _ | refine yD ?_ | refine yA ?_ _)); refine yP (cs := #[.int .i64 a0_0, .slice Am m.length cm, .slice none 0 0]) ?_ 2 _ rfl; (with_reducible repeat (first | refine yN ?_ _ | refine yD ?_ | refine yA ?_ _)); refine yP (cs := #[.int .i64 a0_0, .slice none 0 0, .slice none 0 0]) ?_ 1 _ rfl; (with_reducible repeat (first | refine yN ?_ _ | refine yD ?_ | refine yA ?_ _)); refine yP (cs := #[.int .i64 0, .slice none 0 0, .slice none 0 0]) ?_ 0 _ rfl; (with_reducible repeat (first | refine yN ?_ _ | refine yD ?_ | refine yA ?_ _)); exact BKgbE.out))⟩
    have n_HB : Aside0 (Below w.heap.size w w_901) := ⟨(by rw [hw]; exact (zH HB.out))⟩
    clear hw HOm HOs BKgb1 BKgb8 BKgbE HB
    have HOm := n_HOm
    have HOs := n_HOs
    have BKgb1 := n_BKgb1
    have BKgb8 := n_BKgb8
    have BKgbE := n_BKgbE
    have HB := n_HB
    clear n_HOm n_HOs n_BKgb1 n_BKgb8 n_BKgbE n_HB
    refine hK.out _ _ ((yc BKgb1.out 0)) (fun hHeld => ?_)
    clear hK K
    refine done_ (by kernel_rfl) ?_
    cases g with
    | true =>
     rw [if_pos rfl] at HX1
     simp only [Option.some.injEq, Prod.mk.injEq] at HX1
     obtain ⟨rfl, rfl, rfl, rfl⟩ := HX1
     have hcq902_0 : w_901.cell? ⟨gb1, 0, none⟩ = some (.int .i64 a0_0) := yc BKgb1.out 0
     have hfq902_0 := yZ BKgb1.out 0
     have hcq902_1 : w_901.cell? ⟨gb1, 1, none⟩ = some (.slice A0_1 l0_1.length c0_1) := yc BKgb1.out 1
     have hfq902_1 := yZ BKgb1.out 1
     have hcq902_2 : w_901.cell? ⟨gb1, 2, none⟩ = some (.slice A0_2 l0_2.length c0_2) := yc BKgb1.out 2
     have hfq902_2 := yZ BKgb1.out 2
     have hcq903_0 : w_901.cell? ⟨gb8, 0, none⟩ = some (.int .i64 0) := yc BKgb8.out 0
     have hfq903_0 := yZ BKgb8.out 0
     have hcq903_1 : w_901.cell? ⟨gb8, 1, none⟩ = some (.slice none 0 0) := yc BKgb8.out 1
     have hfq903_1 := yZ BKgb8.out 1
     have hcq903_2 : w_901.cell? ⟨gb8, 2, none⟩ = some (.slice none 0 0) := yc BKgb8.out 2
     have hfq903_2 := yZ BKgb8.out 2
     have hcq904_0 : w_901.cell? ⟨gbE, 0, none⟩ = some (.int .i64 a0_0) := yc BKgbE.out 0
     have hfq904_0 := yZ BKgbE.out 0
     have hcq904_1 : w_901.cell? ⟨gbE, 1, none⟩ = some (.slice Am m.length cm) := yc BKgbE.out 1
     have hfq904_1 := yZ BKgbE.out 1
     have hcq904_2 : w_901.cell? ⟨gbE, 2, none⟩ = some (.slice As (sortE m).length cs) := yc BKgbE.out 2
     have hfq904_2 := yZ BKgbE.out 2
     go_wp2_with (first | (go_at_call 19; go_loud (refine (impl_GoodFree.calls k _ _ cm m _ cs (sortE m) _ _ ?s1 ?s2 ?s3 ?s4 HG.out).mono ?_); (case s1 => have q_ := (Kd.R_reads' HOm.out).2.2; repeat (first | (with_reducible exact q_) | (with_reducible refine cA ?_ _) | (with_reducible refine cN ?_ _) | (with_reducible refine cD ?_) | exact q_)); (case s2 => exact (Kd.R_reads' HOm.out).2.1); (case s3 => have q_ := (Kd.R_reads' HOs.out).2.2; repeat (first | (with_reducible exact q_) | (with_reducible refine cA ?_ _) | (with_reducible refine cN ?_ _) | (with_reducible refine cD ?_) | exact q_)); (case s4 => exact (Kd.R_reads' HOs.out).2.1); rintro e w_905 ⟨rfl, hb⟩; have n_HOm := aM (xB (xH HOm.out) hb); have n_HOs := aM (xB (xH HOs.out) hb); have n_BKgb1 := aM (yB (g := gb1) (o := (.cells #[.int .i64 a0_0, .slice A0_1 l0_1.length c0_1, .slice A0_2 l0_2.length c0_2] 24 (0, 0))) (yH BKgb1.out) hb); have n_BKgb8 := aM (yB (g := gb8) (o := (.cells #[.int .i64 0, .slice none 0 0, .slice none 0 0] 24 (0, 0))) (yH BKgb8.out) hb); have n_BKgbE := aM (yB (g := gbE) (o := (.cells #[.int .i64 a0_0, .slice Am m.length cm, .slice As (sortE m).length cs] 24 (0, 0))) (yH BKgbE.out) hb); have n_HB := aM (zT (zH HB.out) hb); clear HOm HOs BKgb1 BKgb8 BKgbE HB; have HOm := n_HOm; have HOs := n_HOs; have BKgb1 := n_BKgb1; have BKgb8 := n_BKgb8; have BKgbE := n_BKgbE; have HB := n_HB; clear n_HOm n_HOs n_BKgb1 n_BKgb8 n_BKgbE n_HB; clear hb; have hcq906_0 : w_905.cell? ⟨gb1, 0, none⟩ = some (.int .i64 a0_0) := yc BKgb1.out 0; have hfq906_0 := yZ BKgb1.out 0; have hcq906_1 : w_905.cell? ⟨gb1, 1, none⟩ = some (.slice A0_1 l0_1.length c0_1) := yc BKgb1.out 1; have hfq906_1 := yZ BKgb1.out 1; have hcq906_2 : w_905.cell? ⟨gb1, 2, none⟩ = some (.slice A0_2 l0_2.length c0_2) := yc BKgb1.out 2; have hfq906_2 := yZ BKgb1.out 2; have hcq907_0 : w_905.cell? ⟨gb8, 0, none⟩ = some (.int .i64 0) := yc BKgb8.out 0; have hfq907_0 := yZ BKgb8.out 0; have hcq907_1 : w_905.cell? ⟨gb8, 1, none⟩ = some (.slice none 0 0) := yc BKgb8.out 1; have hfq907_1 := yZ BKgb8.out 1; have hcq907_2 : w_905.cell? ⟨gb8, 2, none⟩ = some (.slice none 0 0) := yc BKgb8.out 2; have hfq907_2 := yZ BKgb8.out 2; have hcq908_0 : w_905.cell? ⟨gbE, 0, none⟩ = some (.int .i64 a0_0) := yc BKgbE.out 0; have hfq908_0 := yZ BKgbE.out 0; have hcq908_1 : w_905.cell? ⟨gbE, 1, none⟩ = some (.slice Am m.length cm) := yc BKgbE.out 1; have hfq908_1 := yZ BKgbE.out 1; have hcq908_2 : w_905.cell? ⟨gbE, 2, none⟩ = some (.slice As (sortE m).length cs) := yc BKgbE.out 2; have hfq908_2 := yZ BKgbE.out 2))
     refine bodyPost_ret (results_ct rfl _ _ gb8 24 #[.int .i64 a0_0, .slice Am m.length cm, .slice As (sortE m).length cs] (0, 0) _ rfl (by (with_reducible repeat (first | refine yN ?_ _ | refine yD ?_ | refine yA ?_ _)); refine yP (cs := #[.int .i64 a0_0, .slice Am m.length cm, .slice none 0 0]) ?_ 2 _ rfl; (with_reducible repeat (first | refine yN ?_ _ | refine yD ?_ | refine yA ?_ _)); refine yP (cs := #[.int .i64 a0_0, .slice none 0 0, .slice none 0 0]) ?_ 1 _ rfl; (with_reducible repeat (first | refine yN ?_ _ | refine yD ?_ | refine yA ?_ _)); refine yP (cs := #[.int .i64 0, .slice none 0 0, .slice none 0 0]) ?_ 0 _ rfl; (with_reducible repeat (first | refine yN ?_ _ | refine yD ?_ | refine yA ?_ _)); exact BKgb8.out) Try.underlying24 rfl (by kernel_rfl)) rfl ?_
     exact ⟨_, _, rfl, xH (Kd.R_flat (fun h => h) (xF (p := ⟨gb8, 2, none⟩) (xF (p := ⟨gb8, 1, none⟩) (xF (p := ⟨gb8, 0, none⟩) (xT HOm.out BKgb8.out (by decide)) (fun _ hk => hk.2) (.int .i64 a0_0)) (fun _ hk => hk.2) (.slice Am m.length cm)) (fun _ hk => hk.2) (.slice As (sortE m).length cs)) (fun _ hk _ => atom_of AP hk)), xH (Kd.R_flat (fun h => h) (xF (p := ⟨gb8, 2, none⟩) (xF (p := ⟨gb8, 1, none⟩) (xF (p := ⟨gb8, 0, none⟩) (xT HOs.out BKgb8.out (by decide)) (fun _ hk => hk.2) (.int .i64 a0_0)) (fun _ hk => hk.2) (.slice Am m.length cm)) (fun _ hk => hk.2) (.slice As (sortE m).length cs)) (fun _ hk _ => atom_of' AP hk)), zH HB.out⟩
    | false =>
     rw [if_neg (by decide)] at HX1
     simp only [Option.some.injEq, Prod.mk.injEq] at HX1
     obtain ⟨rfl, rfl, rfl, rfl⟩ := HX1
     have hcq902_0 : w_901.cell? ⟨gb1, 0, none⟩ = some (.int .i64 a0_0) := yc BKgb1.out 0
     have hfq902_0 := yZ BKgb1.out 0
     have hcq902_1 : w_901.cell? ⟨gb1, 1, none⟩ = some (.slice A0_1 l0_1.length c0_1) := yc BKgb1.out 1
     have hfq902_1 := yZ BKgb1.out 1
     have hcq902_2 : w_901.cell? ⟨gb1, 2, none⟩ = some (.slice A0_2 l0_2.length c0_2) := yc BKgb1.out 2
     have hfq902_2 := yZ BKgb1.out 2
     have hcq903_0 : w_901.cell? ⟨gb8, 0, none⟩ = some (.int .i64 0) := yc BKgb8.out 0
     have hfq903_0 := yZ BKgb8.out 0
     have hcq903_1 : w_901.cell? ⟨gb8, 1, none⟩ = some (.slice none 0 0) := yc BKgb8.out 1
     have hfq903_1 := yZ BKgb8.out 1
     have hcq903_2 : w_901.cell? ⟨gb8, 2, none⟩ = some (.slice none 0 0) := yc BKgb8.out 2
     have hfq903_2 := yZ BKgb8.out 2
     have hcq904_0 : w_901.cell? ⟨gbE, 0, none⟩ = some (.int .i64 a0_0) := yc BKgbE.out 0
     have hfq904_0 := yZ BKgbE.out 0
     have hcq904_1 : w_901.cell? ⟨gbE, 1, none⟩ = some (.slice Am m.length cm) := yc BKgbE.out 1
     have hfq904_1 := yZ BKgbE.out 1
     have hcq904_2 : w_901.cell? ⟨gbE, 2, none⟩ = some (.slice As (sortE m).length cs) := yc BKgbE.out 2
     have hfq904_2 := yZ BKgbE.out 2
     go_wp2_with (first | (go_at_call 19; go_loud (refine (impl_GoodFree.calls k _ _ cm m _ cs (sortE m) _ _ ?s1 ?s2 ?s3 ?s4 HG.out).mono ?_); (case s1 => have q_ := (Kd.R_reads' HOm.out).2.2; repeat (first | (with_reducible exact q_) | (with_reducible refine cA ?_ _) | (with_reducible refine cN ?_ _) | (with_reducible refine cD ?_) | exact q_)); (case s2 => exact (Kd.R_reads' HOm.out).2.1); (case s3 => have q_ := (Kd.R_reads' HOs.out).2.2; repeat (first | (with_reducible exact q_) | (with_reducible refine cA ?_ _) | (with_reducible refine cN ?_ _) | (with_reducible refine cD ?_) | exact q_)); (case s4 => exact (Kd.R_reads' HOs.out).2.1); rintro e w_905 ⟨rfl, hb⟩; have n_HOm := aM (xB (xH HOm.out) hb); have n_HOs := aM (xB (xH HOs.out) hb); have n_BKgb1 := aM (yB (g := gb1) (o := (.cells #[.int .i64 a0_0, .slice A0_1 l0_1.length c0_1, .slice A0_2 l0_2.length c0_2] 24 (0, 0))) (yH BKgb1.out) hb); have n_BKgb8 := aM (yB (g := gb8) (o := (.cells #[.int .i64 0, .slice none 0 0, .slice none 0 0] 24 (0, 0))) (yH BKgb8.out) hb); have n_BKgbE := aM (yB (g := gbE) (o := (.cells #[.int .i64 a0_0, .slice Am m.length cm, .slice As (sortE m).length cs] 24 (0, 0))) (yH BKgbE.out) hb); have n_HB := aM (zT (zH HB.out) hb); clear HOm HOs BKgb1 BKgb8 BKgbE HB; have HOm := n_HOm; have HOs := n_HOs; have BKgb1 := n_BKgb1; have BKgb8 := n_BKgb8; have BKgbE := n_BKgbE; have HB := n_HB; clear n_HOm n_HOs n_BKgb1 n_BKgb8 n_BKgbE n_HB; clear hb; have hcq906_0 : w_905.cell? ⟨gb1, 0, none⟩ = some (.int .i64 a0_0) := yc BKgb1.out 0; have hfq906_0 := yZ BKgb1.out 0; have hcq906_1 : w_905.cell? ⟨gb1, 1, none⟩ = some (.slice A0_1 l0_1.length c0_1) := yc BKgb1.out 1; have hfq906_1 := yZ BKgb1.out 1; have hcq906_2 : w_905.cell? ⟨gb1, 2, none⟩ = some (.slice A0_2 l0_2.length c0_2) := yc BKgb1.out 2; have hfq906_2 := yZ BKgb1.out 2; have hcq907_0 : w_905.cell? ⟨gb8, 0, none⟩ = some (.int .i64 0) := yc BKgb8.out 0; have hfq907_0 := yZ BKgb8.out 0; have hcq907_1 : w_905.cell? ⟨gb8, 1, none⟩ = some (.slice none 0 0) := yc BKgb8.out 1; have hfq907_1 := yZ BKgb8.out 1; have hcq907_2 : w_905.cell? ⟨gb8, 2, none⟩ = some (.slice none 0 0) := yc BKgb8.out 2; have hfq907_2 := yZ BKgb8.out 2; have hcq908_0 : w_905.cell? ⟨gbE, 0, none⟩ = some (.int .i64 a0_0) := yc BKgbE.out 0; have hfq908_0 := yZ BKgbE.out 0; have hcq908_1 : w_905.cell? ⟨gbE, 1, none⟩ = some (.slice Am m.length cm) := yc BKgbE.out 1; have hfq908_1 := yZ BKgbE.out 1; have hcq908_2 : w_905.cell? ⟨gbE, 2, none⟩ = some (.slice As (sortE m).length cs) := yc BKgbE.out 2; have hfq908_2 := yZ BKgbE.out 2))
     refine bodyPost_ret (results_ct rfl _ _ gb8 24 #[.int .i64 0, .slice none 0 0, .slice none 0 0] (0, 0) _ rfl (by (with_reducible repeat (first | refine yN ?_ _ | refine yD ?_ | refine yA ?_ _)); refine yP (cs := #[.int .i64 0, .slice none 0 0, .slice none 0 0]) ?_ 2 _ rfl; (with_reducible repeat (first | refine yN ?_ _ | refine yD ?_ | refine yA ?_ _)); refine yP (cs := #[.int .i64 0, .slice none 0 0, .slice none 0 0]) ?_ 1 _ rfl; (with_reducible repeat (first | refine yN ?_ _ | refine yD ?_ | refine yA ?_ _)); refine yP (cs := #[.int .i64 0, .slice none 0 0, .slice none 0 0]) ?_ 0 _ rfl; (with_reducible repeat (first | refine yN ?_ _ | refine yD ?_ | refine yA ?_ _)); exact BKgb8.out) Try.underlying24 rfl (by kernel_rfl)) rfl ?_
     exact ⟨_, _, rfl, Kd.R_nil _ _ _ _ _, Kd.R_nil _ _ _ _ _, zH HB.out⟩


/-! ### impl_Free_placeFor_1: function 63 (by hand) -/
def impl_Free_placeFor_1.f (a0_0 : Int) (a0_1 : Int) (a1 : Int) : Option (Bool) :=
 some (decide (a0_1 ≥ a1))
set_option maxHeartbeats 400000 in
theorem impl_Free_placeFor_1.clo (s : S49) (n : Int) (g : Nat) (W : World) (hg : W.heap[g]? = some (.cells #[.int .i64 n] 3 (0, 0))) :
  Calls Try.prog 63 (#[.agg #[.int .i64 s.f0, .int .i64 s.f1]] ++ #[.pointer (some ⟨g, 0, none⟩)]) W fun e w' => e = .returned (.bool (decide (s.f1 ≥ n))) ∧ Below W.heap.size W w' := by
 show Calls Try.prog 63 #[.agg #[.int .i64 s.f0, .int .i64 s.f1], .pointer (some ⟨g, 0, none⟩)] W _
 have HG := aM hg
 have HB := aM (Below.refl W.heap.size W)
 clear hg
 obtain ⟨s0, s1⟩ := s
 go_enter Try.func63, Try.ntmps63
 go_wp2_with ((with_reducible refine gate_dst (N := 2) rfl ?_); refine box_event ?hg (N := 2) ?hd (cs := #[.int .i64 s0, .int .i64 s1]) (t := 49) ?hr ?_; (case hd => rfl); (case hg => rfl); (case hr => first | (go_simp; done) | (go_simp; rfl)); intro gb1 hg w_2 hbox hb; have n_HB := aM (zT (zH HB.out) hb); have n_GE := aM ((by rw [hg]; exact (zZ (zH HB.out))) : W.heap.size ≤ gb1); clear HB; have HB := n_HB; clear n_HB; have BKgb1 := aM hbox; have GEgb1 := n_GE; clear n_GE; have hcq3_0 : w_2.cell? ⟨gb1, 0, none⟩ = some (.int .i64 s0) := yc BKgb1.out 0; have hfq3_0 := yZ BKgb1.out 0; have hcq3_1 : w_2.cell? ⟨gb1, 1, none⟩ = some (.int .i64 s1) := yc BKgb1.out 1; have hfq3_1 := yZ BKgb1.out 1; clear hbox hb hg; have hc2 : w_2.cell? ⟨g, 0, none⟩ = some (.int .i64 n) := (yC (yB HG.out HB.out) 0).trans rfl)
 go_ret
 exact ⟨by first | rfl | (simp; done), zH HB.out⟩
theorem impl_Free_placeFor_1.clo1 (s : S49) (n : Int) (g : Nat) (W : World) (hg : W.heap[g]? = some (.cells #[.int .i64 n] 3 (0, 0))) :
  Calls Try.prog 63 #[.agg #[.int .i64 s.f0, .int .i64 s.f1], .pointer (some ⟨g, 0, none⟩)] W fun e w' => e = .returned (.bool (decide (s.f1 ≥ n))) ∧ Below W.heap.size W w' := impl_Free_placeFor_1.clo s n g W hg


/-! ### impl_Extent_64: function 64 (by hand) -/
/-- the first extent that is long enough, from i on; -1 if none -/
def firstLong (p : S49 → Bool) : List S49 → Int → Int
 | [], _ => -1
 | x :: l, i => if p x = true then i else firstLong p l (i + 1)
theorem firstLong_at (p : S49 → Bool) (l : List S49) (i : Nat) (h : i < l.length) : firstLong p (l.drop i) (i : Int) = if p (rd_T49 l (i : Int)) = true then (i : Int) else firstLong p (l.drop (i + 1)) ((i + 1 : Nat) : Int) := by
 rw [List.drop_eq_getElem_cons h, firstLong]
 have e : rd_T49 l (i : Int) = l[i] := by simp [rd_T49, List.getD_eq_getElem?_getD, h]
 rw [e]; rfl
def impl_Extent_64.f (l0 : List (S49)) (a1 : Int) : Option (Int) :=
 some (firstLong (fun x => decide (x.f1 ≥ a1)) l0 0)
set_option maxHeartbeats 8000000 in
set_option maxRecDepth 100000 in
theorem impl_Extent_64.index (p : S49 → Bool) (gf : Nat) (lb : Array Value) (A0 : Option Addr) (c0 : Nat) (l0 : List S49) (w : World) (hr0 : Kd.C k49 w A0 l0.length l0)
  (eg : ∀ args w, (callFunc gf args).run Try.prog w = .ok (.enter gf args) w)
  (hclo : ∀ (s : S49) (w1 : World), Below w.heap.size w w1 → Calls Try.prog gf (#[.agg #[.int .i64 s.f0, .int .i64 s.f1]] ++ lb) w1 fun e w' => e = .returned (.bool (p s)) ∧ Below w1.heap.size w1 w') :
  Calls Try.prog 64 #[.slice A0 l0.length c0, .func (.func gf) #[] lb] w fun e w' => e = .returned (.int .i64 (firstLong p l0 0)) ∧ Below w.heap.size w w' := by
 have HR0 := aM hr0
 have HCL := aM hclo
 have HL : l0.length ≤ 9223372036854775807 := hr0.2.1
 clear hr0 hclo
 go_enter Try.func64, Try.ntmps64
 go_wp2
 go_loopw [8] (fun v8 w' => ∃ i : Nat, i ≤ l0.length ∧ v8 = .int .i64 (i : Int) ∧ Aside0 (firstLong p l0 0 = firstLong p (l0.drop i) (i : Int)) ∧ Aside0 (Below w.heap.size w w')) (fun v8 w' => l0.length - (intOf v8).toNat)
 case atStart => exact ⟨0, Nat.zero_le _, rfl, ⟨rfl⟩, ⟨by repeat (first | exact Below.refl _ _ | apply zD | apply zN)⟩⟩
 case round =>
  obtain ⟨i, hi, rfl, HA, HB⟩ := hrel
  by_cases hlt : i < l0.length
  ·have hf := firstLong_at p l0 i hlt
   have p1 : 0 ≤ (i : Int) := by omega
   have q1 : (i : Int) < (l0.length : Int) := by omega
   obtain ⟨ad1, e1, hx1_0, hx1_1⟩ := at_T49 (cB HR0.out HB.out) (i : Int) p1 q1
   cases e1
   (try rw [Int.toNat_natCast] at hx1_0 hx1_1)
   have hw1 : wrap64 ((i : Int) + 1) = ((i + 1 : Nat) : Int) := by unfold wrap64; omega
   generalize hs : rd_T49 l0 (i : Int) = s at hx1_0 hx1_1 hf
   have cl := HCL.out s
   by_cases hp : p s = true
   ·have HF := aM (show firstLong p l0 0 = (i : Int) by rw [HA.out, hf, if_pos hp])
    have HCS := aM cl
    have HP := aM hp
    clear hf cl hs hp HA hw1
    go_wp2_with (go_at_fn gf; go_loud (refine (HCS.out _ (by repeat (first | exact HB.out | apply zD | apply zN))).mono ?_); rintro e w2 ⟨rfl, hb2⟩; have HB2 := aM (zT (by repeat (first | exact HB.out | apply zD | apply zN)) hb2); clear hb2; rw [HP.out])
    go_ret
    exact ⟨by rw [HF.out]; rfl, by repeat (first | exact HB2.out | exact HB.out | apply zD | apply zN)⟩
   ·have hpf : p s = false := by simpa using hp
    have HF := aM (show firstLong p l0 0 = firstLong p (l0.drop (i + 1)) ((i + 1 : Nat) : Int) by rw [HA.out, hf, if_neg hp])
    have HCS := aM cl
    have HP := aM hpf
    have HW1 := aM hw1
    clear hf cl hs hp hpf HA hw1
    go_wp2_with (go_at_fn gf; go_loud (refine (HCS.out _ (by repeat (first | exact HB.out | apply zD | apply zN))).mono ?_); rintro e w2 ⟨rfl, hb2⟩; have HB2 := aM (zT (by repeat (first | exact HB.out | apply zD | apply zN)) hb2); clear hb2; rw [HP.out])
    go_roundw
    case rel => exact ⟨i + 1, by omega, by go_num, HF, ⟨by repeat (first | exact HB2.out | apply zD | apply zN)⟩⟩
    case measure => simp [intOf]; omega
  ·have hlen : i = l0.length := by omega
   have HF := aM (show firstLong p l0 0 = -1 by rw [HA.out, hlen, List.drop_length]; rfl)
   clear HA hlen
   go_wp2
   go_ret
   exact ⟨by rw [HF.out]; rfl, by repeat (first | exact HB.out | apply zD | apply zN)⟩


end Go.Proofs.Ytfhfaeeokibhaaa.PFnExactTakeRoom
