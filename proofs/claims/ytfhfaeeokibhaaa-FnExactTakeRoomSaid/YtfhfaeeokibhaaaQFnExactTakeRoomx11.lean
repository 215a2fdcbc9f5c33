/- The walks of FnExactTakeRoom: Go's calls come to what the Lean functions beside them say; no condition. -/
import Derived.Test.YtfhfaeeokibhaaaQFnExactTakeRoomx0
namespace Go.Proofs.Ytfhfaeeokibhaaa.PFnExactTakeRoom
open Go.RowKit Go.Proofs.YtfhfaeeokibhaaaW.PrintWords Go.Proofs.YtfhfaeeokibhaaaW.PrintLast Go.Proofs.YtfhfaeeokibhaaaW.PrintMore
attribute [local go_sem] max2_int min2_int max_two min_two max_three min_three max_four min_four   -- for this text's walks alone
set_option linter.unusedVariables false
set_option linter.unusedSimpArgs false
set_option maxRecDepth 100000

/-! ### impl_Free_isFree: function 48 -/
mutual
def impl_Free_isFree.l0 : Nat → List Bool → List (S49) → Int → Int → Option (List Bool)
 | 0, _, _, _, _ => none
 | k + 1, x3, x11, x12, x13 => if x13 < x12 then (if 0 ≤ x13 then (if x13 < (x11.length : Int) then (impl_Free_isFree.l1 k x3 x11 x12 x13 ((rd_T49 x11 x13).f1) 0 ((rd_T49 x11 x13).f0) ((rd_T49 x11 x13).f1)) else (none)) else (none)) else (some x3)
def impl_Free_isFree.l1 : Nat → List Bool → List (S49) → Int → Int → Int → Int → Int → Int → Option (List Bool)
 | 0, _, _, _, _, _, _, _, _ => none
 | k + 1, x3, x11, x12, x13, x18, x19, x322000, x322001 => if x19 < x18 then (if 0 ≤ (wrap64 (x322000 + x19)) then (if (wrap64 (x322000 + x19)) < (x3.length : Int) then (impl_Free_isFree.l1 k (x3.set ((wrap64 (x322000 + x19)) : Int).toNat true) x11 x12 x13 x18 (wrap64 (x19 + 1)) x322000 x322001) else (none)) else (none)) else (impl_Free_isFree.l0 k x3 x11 x12 (wrap64 (x13 + 1)))
end
def impl_Free_isFree.f (k : Nat) (a0_0 : Int) (l0_1 : List (S49)) (l0_2 : List (S49)) : Option (List Bool) := if 0 ≤ a0_0 then (if (a0_0 : Int).toNat ≤ 281474976710656 then (impl_Free_isFree.l0 k (List.replicate (a0_0 : Int).toNat false) l0_1 (l0_1.length : Int) 0) else (none)) else (none)
theorem impl_Free_isFree.mono_l : ∀ k, (∀ y0 y1 y2 y3, LeO (impl_Free_isFree.l0 k y0 y1 y2 y3) (impl_Free_isFree.l0 (k + 1) y0 y1 y2 y3)) ∧ (∀ y0 y1 y2 y3 y4 y5 y6 y7, LeO (impl_Free_isFree.l1 k y0 y1 y2 y3 y4 y5 y6 y7) (impl_Free_isFree.l1 (k + 1) y0 y1 y2 y3 y4 y5 y6 y7))
 | 0 => ⟨fun _ _ _ _ r h => by simp [impl_Free_isFree.l0] at h, fun _ _ _ _ _ _ _ _ r h => by simp [impl_Free_isFree.l1] at h⟩
 | k + 1 => by
  obtain ⟨ih0, ih1⟩ := impl_Free_isFree.mono_l k
  refine ⟨?_, ?_⟩
  ·intro y0 y1 y2 y3
   unfold impl_Free_isFree.l0
   repeat' first
   | (with_reducible exact ih0 _ _ _ _)
   | (with_reducible exact ih1 _ _ _ _ _ _ _ _)
   | (with_reducible exact LeO.refl _)
   | (with_reducible exact LeO.none _)
   | (with_reducible refine LeO.ite ?_ ?_)
   | (with_reducible refine LeO.bind ?_ (fun _ => ?_))
   | exact ih0 _ _ _ _
   | exact ih1 _ _ _ _ _ _ _ _
   | exact LeO.none _
   | refine LeO.ite ?_ ?_
   | refine LeO.bind ?_ (fun _ => ?_)
  ·intro y0 y1 y2 y3 y4 y5 y6 y7
   unfold impl_Free_isFree.l1
   repeat' first
   | (with_reducible exact ih0 _ _ _ _)
   | (with_reducible exact ih1 _ _ _ _ _ _ _ _)
   | (with_reducible exact LeO.refl _)
   | (with_reducible exact LeO.none _)
   | (with_reducible refine LeO.ite ?_ ?_)
   | (with_reducible refine LeO.bind ?_ (fun _ => ?_))
   | exact ih0 _ _ _ _
   | exact ih1 _ _ _ _ _ _ _ _
   | exact LeO.none _
   | refine LeO.ite ?_ ?_
   | refine LeO.bind ?_ (fun _ => ?_)
theorem impl_Free_isFree.mono : ∀ a0 a1 a2 k, LeO (impl_Free_isFree.f k a0 a1 a2) (impl_Free_isFree.f (k + 1) a0 a1 a2) := by
 intro a0 a1 a2 k
 obtain ⟨ih0, ih1⟩ := impl_Free_isFree.mono_l k
 unfold impl_Free_isFree.f
 repeat' first
   | (with_reducible exact ih0 _ _ _ _)
   | (with_reducible exact ih1 _ _ _ _ _ _ _ _)
   | (with_reducible exact LeO.refl _)
   | (with_reducible exact LeO.none _)
   | (with_reducible refine LeO.ite ?_ ?_)
   | (with_reducible refine LeO.bind ?_ (fun _ => ?_))
   | exact ih0 _ _ _ _
   | exact ih1 _ _ _ _ _ _ _ _
   | exact LeO.none _
   | refine LeO.ite ?_ ?_
   | refine LeO.bind ?_ (fun _ => ?_)
set_option maxHeartbeats 8000000 in
set_option maxRecDepth 100000 in
theorem impl_Free_isFree.calls (k : Nat) (a0_0 : Int) (A0_1 : Option Addr) (c0_1 : Nat) (l0_1 : List (S49)) (A0_2 : Option Addr) (c0_2 : Nat) (l0_2 : List (S49)) (r : List Bool) (w : World) (hr0_1 : Kd.C k49 w A0_1 l0_1.length l0_1) (hc0_1 : l0_1.length ≤ c0_1) (hr0_2 : Kd.C k49 w A0_2 l0_2.length l0_2) (hc0_2 : l0_2.length ≤ c0_2) (h : impl_Free_isFree.f k a0_0 l0_1 l0_2 = some r) :
  Calls Try.prog 48 #[.agg #[.int .i64 a0_0, .slice A0_1 l0_1.length c0_1, .slice A0_2 l0_2.length c0_2]] w fun e w' => ∃ v0_ : Value, e = .returned (v0_) ∧ Kd.R Kd.bool 4 w' w.heap.size (fun _ => True) v0_ r ∧ Below w.heap.size w w' := by
 have hu24 := Try.underlying24
 have hu49 := Try.underlying49
 have HR0_1 := aM hr0_1
 have HC0_1 := aM hc0_1
 clear hr0_1 hc0_1
 have HR0_2 := aM hr0_2
 have HC0_2 := aM hc0_2
 clear hr0_2 hc0_2
 have HB := aM (Below.refl w.heap.size w)
 have H : (if 0 ≤ a0_0 then (if (a0_0 : Int).toNat ≤ 281474976710656 then (impl_Free_isFree.l0 k (List.replicate (a0_0 : Int).toNat false) l0_1 (l0_1.length : Int) 0) else (none)) else (none)) = some r := h
 clear h
 by_cases c2 : 0 ≤ a0_0
 ·rw [if_pos c2] at H
  have c2b0 := eq_true c2
  have c2b1 : decide (0 ≤ a0_0) = true := decide_eq_true c2
  clear c2
  by_cases c3 : (a0_0 : Int).toNat ≤ 281474976710656
  ·rw [if_pos c3] at H
   have c3b0 := eq_true c3
   have c3b1 : decide ((a0_0 : Int).toNat ≤ 281474976710656) = true := decide_eq_true c3
   clear c3
   obtain ⟨y317, hy317⟩ : ∃ y_ : List Bool, y_ = (List.replicate (a0_0 : Int).toNat false) := ⟨_, rfl⟩
   replace H : (impl_Free_isFree.l0 k y317 l0_1 (l0_1.length : Int) 0) = some r := by first | (rw [hy317]; with_reducible exact H) | (have H2_ := (Option.bind_some _ _).symm.trans H; rw [hy317]; with_reducible exact H2_) | (have H2_ := (Option.bind_some _ _).symm.trans H; with_reducible exact H2_) | with_reducible exact H | (rw [hy317]; exact H) | exact H
   have Ny317 := aM hy317
   clear hy317
   have H' := aM H
   clear H
   go_enter Try.func48, Try.ntmps48
   go_wp2_with (first | ((with_reducible refine gate_dst (N := 1) rfl ?_); refine box_event ?hg (N := 1) ?hd (cs := #[.int .i64 a0_0, .slice A0_1 l0_1.length c0_1, .slice A0_2 l0_2.length c0_2]) (t := 24) ?hr ?_; (case hd => rfl); (case hg => rfl); (case hr => first | (go_simp; done) | (go_simp; rfl)); intro gb316 hg w4 hbox hb; have BK316 := aM (hbox); have GW316 := aM ((by rw [hg]; exact (zZ (zH HB.out)) : w.heap.size ≤ gb316)); have GE316 := aM ((by rw [hg]; exact (zZ (zH HB.out)) : w.heap.size ≤ gb316)); replace HB := aM (zT (zH HB.out) hb); clear hb hbox hg; have hcz5_0 : w4.cell? ⟨gb316, 0, none⟩ = some (.int .i64 a0_0) := yc BK316.out 0; have hcz5_1 : w4.cell? ⟨gb316, 1, none⟩ = some (.slice A0_1 l0_1.length c0_1) := yc BK316.out 1; have hcz5_2 : w4.cell? ⟨gb316, 2, none⟩ = some (.slice A0_2 l0_2.length c0_2) := yc BK316.out 2; have hfz5_0 := yZ BK316.out 0; have hfz5_1 := yZ BK316.out 1; have hfz5_2 := yZ BK316.out 2) | ((with_reducible refine gate_dst (N := 9) rfl ?_); refine Kd.R_make Kd.bool _ 4 rfl (N := 9) rfl 63 _ _ rfl a0_0 rfl rfl Try.underlying63 (.bool false) 1 info4 rfl (by decide) (by omega) false (ok := fun _ => True) (okp := fun _ => True) rfl (fun _ hk => hk) trivial (of_decide_eq_true (by first | (with_reducible assumption) | assumption)) (Nat.le_trans (Nat.mul_le_mul_right _ (of_decide_eq_true (by first | (with_reducible assumption) | assumption) : a0_0.toNat ≤ 281474976710656)) (by omega)) (Below.refl _ _) (Nat.le_refl _) ?_; intro v318 w6 ho7 hb hg_ hnew_; clear hg_ hnew_; (first | rw [← Ny317.out] at ho7 | (simp only [Int.reduceToNat] at ho7; rw [← Ny317.out] at ho7)); have HO319 := aM (xL ho7 (zZ (zH HB.out))); replace BK316 := yK BK316.out hb; replace HB := aM (zT (zH HB.out) hb); clear hb ho7; have hcz8_0 : w6.cell? ⟨gb316, 0, none⟩ = some (.int .i64 a0_0) := yc BK316.out 0; have hcz8_1 : w6.cell? ⟨gb316, 1, none⟩ = some (.slice A0_1 l0_1.length c0_1) := yc BK316.out 1; have hcz8_2 : w6.cell? ⟨gb316, 2, none⟩ = some (.slice A0_2 l0_2.length c0_2) := yc BK316.out 2; have hfz8_0 := yZ BK316.out 0; have hfz8_1 := yZ BK316.out 1; have hfz8_2 := yZ BK316.out 2))
   go_loopg [13] k (fun kq v13 w' => ∃ (x3_1 : List Bool) (x13_1 : Int), v13 = .int .i64 x13_1 ∧ Aside0 (impl_Free_isFree.l0 kq x3_1 l0_1 (l0_1.length : Int) x13_1 = some r) ∧ Aside0 (kq ≤ k) ∧ Aside0 (Kd.R Kd.bool 4 w' w.heap.size (fun _ => True) v318 x3_1) ∧ Aside0 (w'.heap[gb316]? = some (.cells #[.int .i64 a0_0, (.slice A0_1 l0_1.length c0_1), (.slice A0_2 l0_2.length c0_2)] 24 (0, 0))) ∧ Aside0 (Below w.heap.size w w'))
   case atStart => exact ⟨(y317), (0), (by first | rfl | (simp; done) | (simp [*]; done)), H', ⟨Nat.le_refl _⟩, ⟨xH HO319.out⟩, ⟨yH BK316.out⟩, ⟨zH HB.out⟩⟩
   case round =>
    clear H'
    (try clear c2); (try clear c2b0); (try clear c2b1); (try clear p2); (try clear c3); (try clear c3b0); (try clear c3b1); (try clear c4); (try clear hcz5_0); (try clear hcz5_1); (try clear hcz5_2); (try clear hcz8_0); (try clear hcz8_1); (try clear hcz8_2); (try clear hfz5_0); (try clear hfz5_1); (try clear hfz5_2); (try clear hfz8_0); (try clear hfz8_1); (try clear hfz8_2)
    obtain ⟨x3_1, x13_1, rfl, HA, HK1, p0', BK316, HB⟩ := hrel
    cases gk with
    | zero => exact absurd HA.out (fun h_ => by change none = some _ at h_; cases h_)
    | succ k1 =>
     have H := HA.out
     clear HA
     simp only [impl_Free_isFree.l0] at H
     by_cases c9 : x13_1 < (l0_1.length : Int)
     ·rw [if_pos c9] at H
      have c9b0 : decide (x13_1 < (l0_1.length : Int)) = true := decide_eq_true c9
      clear c9
      by_cases c10 : 0 ≤ x13_1
      ·rw [if_pos c10] at H
       have c10b0 : decide (0 ≤ x13_1) = true := decide_eq_true c10
       clear c10
       by_cases c11 : x13_1 < (l0_1.length : Int)
       ·rw [if_pos c11] at H
        have c11b0 : decide (x13_1 < (l0_1.length : Int)) = true := decide_eq_true c11
        clear c11
        have H' := aM H
        clear H
        have p320 : 0 ≤ (x13_1 : Int) := of_decide_eq_true (by first | (with_reducible assumption) | assumption)
        have q320 : x13_1 < (l0_1.length : Int) := of_decide_eq_true (by first | (with_reducible assumption) | assumption)
        obtain ⟨ad320, e320, hx320_0, hx320_1⟩ := at_T49 HR0_1.out x13_1 p320 q320
        cases e320
        replace hx320_0 := (HB.out.cell (World.block_lt_of_cell? w _ hx320_0)).trans hx320_0
        replace hx320_1 := (HB.out.cell (World.block_lt_of_cell? w _ hx320_1)).trans hx320_1
        replace p320 := eq_true p320
        replace q320 := eq_true q320
        go_wp2_with (first | ((with_reducible refine gate_dst (N := 5) rfl ?_); refine box_event ?hg (N := 5) ?hd (cs := #[.int .i64 0, .int .i64 0]) (t := 49) ?hr ?_; (case hd => rfl); (case hg => rfl); (case hr => first | (go_simp; done) | (go_simp; rfl)); intro gb321 hg w12 hbox hb; replace p0' := xK p0'.out hb; have BK321 := aM (hbox); have GW321 := aM ((by rw [hg]; exact (zZ (zH HB.out)) : w.heap.size ≤ gb321)); have GE321 := aM ((by rw [hg]; exact (zZ (zH HB.out)) : w.heap.size ≤ gb321)); replace HB := aM (zT (zH HB.out) hb); have NB316_321 := nL BK316.out hg; have NB321_316 := nR BK316.out hg; replace BK316 := yK BK316.out hb; clear hb hbox hg; have hnb13 := NB321_316.out; have hnc13 := NB316_321.out; have hcz14_0 : w12.cell? ⟨gb321, 0, none⟩ = some (.int .i64 0) := yc BK321.out 0; have hcz14_1 : w12.cell? ⟨gb321, 1, none⟩ = some (.int .i64 0) := yc BK321.out 1; have hfz14_0 := yZ BK321.out 0; have hfz14_1 := yZ BK321.out 1))
        go_loopg [19] k1 (fun kq v19 w' => ∃ (x3_2 : List Bool) (x19_2 : Int), v19 = .int .i64 x19_2 ∧ Aside0 (impl_Free_isFree.l1 kq x3_2 l0_1 (l0_1.length : Int) x13_1 ((rd_T49 l0_1 x13_1).f1) x19_2 ((rd_T49 l0_1 x13_1).f0) ((rd_T49 l0_1 x13_1).f1) = some r) ∧ Aside0 (kq ≤ k1) ∧ Aside0 (Kd.R Kd.bool 4 w' w.heap.size (fun _ => True) v318 x3_2) ∧ Aside0 (w'.heap[gb316]? = some (.cells #[.int .i64 a0_0, (.slice (some ad320) l0_1.length c0_1), (.slice A0_2 l0_2.length c0_2)] 24 (0, 0))) ∧ Aside0 (w'.heap[gb321]? = some (.cells #[.int .i64 ((rd_T49 l0_1 x13_1).f0), .int .i64 ((rd_T49 l0_1 x13_1).f1)] 49 (0, 0))) ∧ Aside0 (Below w.heap.size w w'))
        case atStart => exact ⟨(x3_1), (0), (by first | rfl | (simp; done) | (simp [*]; done)), H', ⟨Nat.le_refl _⟩, ⟨xH (xM (xF (p := ⟨gb321, 1, none⟩) (xF (p := ⟨gb321, 0, none⟩) (xT p0'.out BK321.out (by decide)) (fun _ hk => hk.2) (.int .i64 ((rd_T49 l0_1 x13_1).f0))) (fun _ hk => hk.2) (.int .i64 ((rd_T49 l0_1 x13_1).f1))) (fun _ hk => trivial))⟩, ⟨by (with_reducible repeat (first | refine yN ?_ _ | refine yD ?_ | refine yA ?_ _)); refine yF ?_ NB316_321.out _; (with_reducible repeat (first | refine yN ?_ _ | refine yD ?_ | refine yA ?_ _)); refine yF ?_ NB316_321.out _; (with_reducible repeat (first | refine yN ?_ _ | refine yD ?_ | refine yA ?_ _)); exact BK316.out⟩, ⟨by (with_reducible repeat (first | refine yN ?_ _ | refine yD ?_ | refine yA ?_ _)); refine yP (cs := #[.int .i64 ((rd_T49 l0_1 x13_1).f0), .int .i64 0]) ?_ 1 _ rfl; (with_reducible repeat (first | refine yN ?_ _ | refine yD ?_ | refine yA ?_ _)); refine yP (cs := #[.int .i64 0, .int .i64 0]) ?_ 0 _ rfl; (with_reducible repeat (first | refine yN ?_ _ | refine yD ?_ | refine yA ?_ _)); exact BK321.out⟩, ⟨zH HB.out⟩⟩
        case round =>
         clear H'
         (try clear c1); (try clear c2); (try clear c2b0); (try clear c2b1); (try clear p2); (try clear c3); (try clear c3b0); (try clear c3b1); (try clear p3); (try clear q3); (try clear hx3); (try clear c4); (try clear c9); (try clear c9b0); (try clear c10); (try clear c10b0); (try clear c11); (try clear c11b0); (try clear c13); (try clear hcz14_0); (try clear hcz14_1); (try clear hcz5_0); (try clear hcz5_1); (try clear hcz5_2); (try clear hcz8_0); (try clear hcz8_1); (try clear hcz8_2); (try clear hfz14_0); (try clear hfz14_1); (try clear hfz5_0); (try clear hfz5_1); (try clear hfz5_2); (try clear hfz8_0); (try clear hfz8_1); (try clear hfz8_2); (try clear hx320_0); (try clear hx320_1); (try clear p2); (try clear p320); (try clear q320)
         obtain ⟨x3_2, x19_2, rfl, HA, HK2, p0', BK316, BK321, HB⟩ := hrel
         cases gk with
         | zero => exact absurd HA.out (fun h_ => by change none = some _ at h_; cases h_)
         | succ k2 =>
          have H := HA.out
          clear HA
          simp only [impl_Free_isFree.l1] at H
          by_cases c15 : x19_2 < ((rd_T49 l0_1 x13_1).f1)
          ·rw [if_pos c15] at H
           have c15b0 : decide (x19_2 < ((rd_T49 l0_1 x13_1).f1)) = true := decide_eq_true c15
           clear c15
           obtain ⟨ji16, hji16⟩ : ∃ j_ : Int, (wrap64 (((rd_T49 l0_1 x13_1).f0) + x19_2)) = j_ := ⟨_, rfl⟩
           replace H : (if 0 ≤ (ji16) then (if (ji16) < (x3_2.length : Int) then (impl_Free_isFree.l1 k2 (x3_2.set ((ji16) : Int).toNat true) l0_1 (l0_1.length : Int) x13_1 ((rd_T49 l0_1 x13_1).f1) (wrap64 (x19_2 + 1)) ((rd_T49 l0_1 x13_1).f0) ((rd_T49 l0_1 x13_1).f1)) else (none)) else (none)) = some r := by first | (rw [hji16] at H; exact H) | (simp only [hji16] at H ⊢; exact H)
           have hji16w : (IntKind.i64.wrap (((rd_T49 l0_1 x13_1).f0) + x19_2)) = ji16 := (i64_w _).trans hji16
           by_cases c17 : 0 ≤ (ji16)
           ·rw [if_pos c17] at H
            have c17b0 : decide (0 ≤ (ji16)) = true := decide_eq_true c17
            clear c17
            by_cases c18 : (ji16) < (x3_2.length : Int)
            ·rw [if_pos c18] at H
             have c18b0 : decide ((ji16) < (x3_2.length : Int)) = true := decide_eq_true c18
             clear c18
             obtain ⟨y322, hy322⟩ : ∃ y_ : List Bool, y_ = (x3_2.set ((ji16) : Int).toNat true) := ⟨_, rfl⟩
             replace H : (impl_Free_isFree.l1 k2 y322 l0_1 (l0_1.length : Int) x13_1 ((rd_T49 l0_1 x13_1).f1) (wrap64 (x19_2 + 1)) ((rd_T49 l0_1 x13_1).f0) ((rd_T49 l0_1 x13_1).f1)) = some r := by first | (rw [hy322]; with_reducible exact H) | (have H2_ := (Option.bind_some _ _).symm.trans H; rw [hy322]; with_reducible exact H2_) | (have H2_ := (Option.bind_some _ _).symm.trans H; with_reducible exact H2_) | with_reducible exact H | (rw [hy322]; exact H) | exact H
             have Ny322 := aM hy322
             clear hy322
             have H' := aM H
             clear H
             have hnb20 := NB321_316.out
             have hnc20 := NB316_321.out
             have hcz21_0 : wr.cell? ⟨gb321, 0, none⟩ = some (.int .i64 ((rd_T49 l0_1 x13_1).f0)) := yc BK321.out 0
             have hcz21_1 : wr.cell? ⟨gb321, 1, none⟩ = some (.int .i64 ((rd_T49 l0_1 x13_1).f1)) := yc BK321.out 1
             have hfz21_0 := yZ BK321.out 0
             have hfz21_1 := yZ BK321.out 1
             have p19 : 0 ≤ ((ji16) : Int) := of_decide_eq_true (by first | (with_reducible assumption) | assumption)
             have q19 : ((ji16) : Int) < ((x3_2.length : Int) : Int) := of_decide_eq_true (by first | (with_reducible assumption) | assumption)
             obtain ⟨go19, co19, eo19, gb19, gl19, cl19, HG19⟩ := Kd.R_form p0'.out (by omega)
             (first | cases eo19 | (injection eo19 with ea_ en_ ec_; (first | subst ea_ | (injection ea_ with ea_; subst ea_)); subst ec_; clear en_))
             have GB19 := aM gb19
             have GG19 := aM HG19
             clear gb19 gl19 HG19
             obtain ⟨hx19_0, hf19_0⟩ := Kd.R_celln false p0'.out ((ji16) : Int) p19 q19
             replace p19 := eq_true p19
             replace q19 := eq_true q19
             have HP22 := Kd.R_putg p0'.out ((ji16) : Int) true
             go_wp2_with (first | ((with_reducible refine gate_store (t := 4) (p := 27) rfl ?_); refine store_event (t := 4) (p := 27) (v := ?vo_w23) (w1 := (wr.setCell ⟨go19, ((ji16) : Int).toNat, none⟩ (.bool true))) ?hg ?ho ?hn ?hr ?_; (case ho => rfl); (case hg => rfl); (case hn => rfl); (case hr => first | (go_simp; done) | (go_simp; rfl)); intro w23 hw; have hg : wr.grownBy w23 (some go19) := (by rw [hw]; exact HP22.2); have hp_ : Kd.R Kd.bool 4 w23 w.heap.size (fun _ => True) (.slice (some ⟨go19, 0, none⟩) x3_2.length co19) y322 := (by rw [hw, Ny322.out]; exact HP22.1); clear HP22; replace BK316 := aM (blk_grown (g := gb316) (o := .cells #[.int .i64 a0_0, .slice (some ad320) l0_1.length c0_1, .slice A0_2 l0_2.length c0_2] 24 (0, 0)) (yH BK316.out) hg (Kd.R_ne p0'.out BK316.out (by decide))); replace BK321 := aM (blk_grown (g := gb321) (o := .cells #[.int .i64 ((rd_T49 l0_1 x13_1).f0), .int .i64 ((rd_T49 l0_1 x13_1).f1)] 49 (0, 0)) (yH BK321.out) hg (Kd.R_ne p0'.out BK321.out (by decide))); replace p0' := aM (hp_); replace HB := aM ((by rw [hw]; exact zS (HB.out) GB19.out : Below w.heap.size w w23)); clear hg hw hp_))
             go_roundg k2
             case measure => have := HK1.out; have := HK2.out; omega
             case rel => exact ⟨(y322), (wrap64 (x19_2 + 1)), (by first | rfl | (simp; done) | (simp [*]; done)), H', ⟨by have := HK1.out; have := HK2.out; omega⟩, ⟨xH p0'.out⟩, ⟨yH BK316.out⟩, ⟨yH BK321.out⟩, ⟨zH HB.out⟩⟩
            ·rw [if_neg c18] at H
             exact absurd H (by simp)
           ·rw [if_neg c17] at H
            exact absurd H (by simp)
          ·rw [if_neg c15] at H
           have c15b0 : decide (x19_2 < ((rd_T49 l0_1 x13_1).f1)) = false := decide_eq_false c15
           clear c15
           have H' := aM H
           clear H
           go_wp2
           go_roundg k2
           case measure => have := HK1.out; have := HK2.out; omega
           case rel => exact ⟨(x3_2), (wrap64 (x13_1 + 1)), (by first | rfl | (simp; done) | (simp [*]; done)), H', ⟨by have := HK1.out; have := HK2.out; omega⟩, ⟨xH p0'.out⟩, ⟨yH BK316.out⟩, ⟨zH HB.out⟩⟩
       ·rw [if_neg c11] at H
        exact absurd H (by simp)
      ·rw [if_neg c10] at H
       exact absurd H (by simp)
     ·rw [if_neg c9] at H
      have c9b0 : decide (x13_1 < (l0_1.length : Int)) = false := decide_eq_false c9
      clear c9
      obtain rfl := Option.some.inj H
      go_wp2
      go_ret
      exact ⟨_, by first | rfl | (simp [errW_none, errW_some] <;> rfl) | (simp [*, errW_none, errW_some] <;> rfl), xH p0'.out, zH HB.out⟩
  ·rw [if_neg c3] at H
   exact absurd H (by simp)
 ·rw [if_neg c2] at H
  exact absurd H (by simp)

/-! ### impl_UsedExtents_1: function 50 (by hand) -/


/-! ### impl_merged: function 49 -/
def impl_merged.l0 (p1_ : Int → Option Bool) : Nat → List (S49) → Int → Int → Option ((List (S49)))
 | 0, _, _, _ => none
 | k + 1, x5, x9, x10 => if x10 < x9 then ((p1_ x10).bind fun t326 => (if t326 = true then (if (wrap64 ((x5.length : Int) - 1)) ≥ 0 then (if 0 ≤ (wrap64 ((x5.length : Int) - 1)) then (if (wrap64 ((x5.length : Int) - 1)) < (x5.length : Int) then (if (wrap64 (((rd_T49 x5 (wrap64 ((x5.length : Int) - 1))).f0) + ((rd_T49 x5 (wrap64 ((x5.length : Int) - 1))).f1))) = x10 then (impl_merged.l0 p1_ k (x5.set ((wrap64 ((x5.length : Int) - 1)) : Int).toNat (⟨(rd_T49 x5 (wrap64 ((x5.length : Int) - 1))).f0, wrap64 (((rd_T49 x5 (wrap64 ((x5.length : Int) - 1))).f1) + 1)⟩ : S49)) x9 (wrap64 (x10 + 1))) else (if x5.length < 8796093022208 then (impl_merged.l0 p1_ k (x5 ++ [(⟨x10, 1⟩ : S49)]) x9 (wrap64 (x10 + 1))) else (none))) else (none)) else (none)) else (if x5.length < 8796093022208 then (impl_merged.l0 p1_ k (x5 ++ [(⟨x10, 1⟩ : S49)]) x9 (wrap64 (x10 + 1))) else (none))) else (impl_merged.l0 p1_ k x5 x9 (wrap64 (x10 + 1))))) else (some x5)
def impl_merged.f (p1_ : Int → Option Bool) (k : Nat) (a0 : Int) : Option ((List (S49))) := impl_merged.l0 p1_ k (([] : List (S49))) a0 0
theorem impl_merged.mono_l (p1_ : Int → Option Bool) : ∀ k, (∀ y0 y1 y2, LeO (impl_merged.l0 p1_ k y0 y1 y2) (impl_merged.l0 p1_ (k + 1) y0 y1 y2))
 | 0 => fun _ _ _ r h => by change none = some r at h; cases h
 | k + 1 => by
  have ih0 := impl_merged.mono_l p1_ k
  ·intro y0 y1 y2
   unfold impl_merged.l0
   repeat' first
   | (with_reducible exact ih0 _ _ _)
   | (with_reducible exact LeO.refl _)
   | (with_reducible exact LeO.none _)
   | (with_reducible refine LeO.ite ?_ ?_)
   | (with_reducible refine LeO.bind ?_ (fun _ => ?_))
   | exact ih0 _ _ _
   | exact LeO.none _
   | refine LeO.ite ?_ ?_
   | refine LeO.bind ?_ (fun _ => ?_)
theorem impl_merged.mono (p1_ : Int → Option Bool) : ∀ a0 k, LeO (impl_merged.f p1_ k a0) (impl_merged.f p1_ (k + 1) a0) := by
 intro a0 k
 have ih0 := impl_merged.mono_l p1_ k
 unfold impl_merged.f
 repeat' first
   | (with_reducible exact ih0 _ _ _)
   | (with_reducible exact LeO.refl _)
   | (with_reducible exact LeO.none _)
   | (with_reducible refine LeO.ite ?_ ?_)
   | (with_reducible refine LeO.bind ?_ (fun _ => ?_))
   | exact ih0 _ _ _
   | exact LeO.none _
   | refine LeO.ite ?_ ?_
   | refine LeO.bind ?_ (fun _ => ?_)
set_option maxHeartbeats 8000000 in
set_option maxRecDepth 100000 in
theorem impl_merged.calls (gf : Nat) (lb : Array Value) (p1_ : Int → Option Bool) (k : Nat) (a0 : Int) (r : List (S49)) (w : World) (eg : ∀ args w, (callFunc gf args).run Try.prog w = .ok (.enter gf args) w) (hp1 : ∀ (x : Int) (b : Bool) (W : World), p1_ x = some b → Below w.heap.size w W → Calls Try.prog gf (#[.int .i64 x] ++ lb) W fun e w' => e = .returned (.bool b) ∧ Below W.heap.size W w') (h : impl_merged.f p1_ k a0 = some r) :
  Calls Try.prog 49 #[.int .i64 a0, .func (.func gf) #[] lb] w fun e w' => ∃ v0_ : Value, e = .returned (v0_) ∧ Kd.R k49 49 w' w.heap.size (fun _ => True) v0_ r ∧ Below w.heap.size w w' := by
 have hu49 := Try.underlying49
 have HP1 := aM hp1
 clear hp1
 have HB := aM (Below.refl w.heap.size w)
 have H : (impl_merged.l0 p1_ k (([] : List (S49))) a0 0) = some r := h
 clear h
 obtain ⟨y323, hy323⟩ : ∃ y_ : List (S49), y_ = (([] : List (S49))) := ⟨_, rfl⟩
 replace H : (impl_merged.l0 p1_ k y323 a0 0) = some r := by first | (rw [hy323]; with_reducible exact H) | (have H2_ := (Option.bind_some _ _).symm.trans H; rw [hy323]; with_reducible exact H2_) | (have H2_ := (Option.bind_some _ _).symm.trans H; with_reducible exact H2_) | with_reducible exact H | (rw [hy323]; exact H) | exact H
 have Ny323 := aM hy323
 clear hy323
 have H' := aM H
 clear H
 go_enter Try.func49, Try.ntmps49
 go_wp2_with (first | ((with_reducible refine gate_dst (N := 8) rfl ?_); refine Kd.R_lit k49 _ 49 ?hg (N := 8) ?hd (xs := ([] : List (S49))) (inner := []) (ok := fun _ => True) (okp := fun _ => True) ?hr ?hp (fun _ hk => hk) trivial (Below.refl _ _) (Nat.le_refl _) (by simp) ?_; (case hd => rfl); (case hg => rfl); (case hr => first | (go_simp; done) | (go_simp; rfl)); (case hp => exact (Reps.none _ _)); intro v324 w3 ho4 hb hg_ hnew_; clear hg_ hnew_; (first | rw [← Ny323.out] at ho4 | (simp only [Int.reduceToNat] at ho4; rw [← Ny323.out] at ho4)); have HO325 := aM (xL ho4 (zZ (zH HB.out))); replace HB := aM (zT (zH HB.out) hb); clear hb ho4))
 repeat (go_quiet (first | ((with_reducible refine gate_dst (N := 8) rfl ?_); refine Kd.R_lit k49 _ 49 ?hg (N := 8) ?hd (xs := ([] : List (S49))) (inner := []) (ok := fun _ => True) (okp := fun _ => True) ?hr ?hp (fun _ hk => hk) trivial (Below.refl _ _) (Nat.le_refl _) (by simp) ?_; (case hd => rfl); (case hg => rfl); (case hr => first | (go_simp; done) | (go_simp; rfl)); (case hp => exact (Reps.none _ _)); intro v324 w3 ho4 hb hg_ hnew_; clear hg_ hnew_; (first | rw [← Ny323.out] at ho4 | (simp only [Int.reduceToNat] at ho4; rw [← Ny323.out] at ho4)); have n0_ := aM (xL ho4 (zZ (zH HB.out))); have n1_ := aM (zT (zH HB.out) hb); clear HB; have HO325 := n0_; have HB := n1_; clear n0_ n1_; clear hb ho4)); try go_wp2_with (first | ((with_reducible refine gate_dst (N := 8) rfl ?_); refine Kd.R_lit k49 _ 49 ?hg (N := 8) ?hd (xs := ([] : List (S49))) (inner := []) (ok := fun _ => True) (okp := fun _ => True) ?hr ?hp (fun _ hk => hk) trivial (Below.refl _ _) (Nat.le_refl _) (by simp) ?_; (case hd => rfl); (case hg => rfl); (case hr => first | (go_simp; done) | (go_simp; rfl)); (case hp => exact (Reps.none _ _)); intro v324 w3 ho4 hb hg_ hnew_; clear hg_ hnew_; (first | rw [← Ny323.out] at ho4 | (simp only [Int.reduceToNat] at ho4; rw [← Ny323.out] at ho4)); have n0_ := aM (xL ho4 (zZ (zH HB.out))); have n1_ := aM (zT (zH HB.out) hb); clear HB; have HO325 := n0_; have HB := n1_; clear n0_ n1_; clear hb ho4)))
 go_loopg [5, 10] k (fun kq v5 v10 w' => ∃ (x5_1 : List (S49)) (x10_1 : Int), v10 = .int .i64 x10_1 ∧ Aside0 (impl_merged.l0 p1_ kq x5_1 a0 x10_1 = some r) ∧ Aside0 (kq ≤ k) ∧ Aside0 (Kd.R k49 49 w' w.heap.size (fun _ => True) v5 x5_1) ∧ Aside0 (Below w.heap.size w w'))
 case atStart => exact ⟨(y323), (0), (by first | rfl | (simp; done) | (simp [*]; done)), H', ⟨Nat.le_refl _⟩, ⟨xH HO325.out⟩, ⟨zH HB.out⟩⟩
 case round =>
  clear H'
  (try clear p2); (try clear c4)
  obtain ⟨x5_1, x10_1, rfl, HA, HK1, p1', HB⟩ := hrel
  cases gk with
  | zero => exact absurd HA.out (fun h_ => by change none = some _ at h_; cases h_)
  | succ k1 =>
   have H := HA.out
   clear HA
   simp only [impl_merged.l0] at H
   by_cases c5 : x10_1 < a0
   ·rw [if_pos c5] at H
    have c5b0 : decide (x10_1 < a0) = true := decide_eq_true c5
    clear c5
    replace H := Option.bind_eq_some_iff.mp H
    obtain ⟨t326, A60, H⟩ := H
    replace H : (if t326 = true then (if (wrap64 ((x5_1.length : Int) - 1)) ≥ 0 then (if 0 ≤ (wrap64 ((x5_1.length : Int) - 1)) then (if (wrap64 ((x5_1.length : Int) - 1)) < (x5_1.length : Int) then (if (wrap64 (((rd_T49 x5_1 (wrap64 ((x5_1.length : Int) - 1))).f0) + ((rd_T49 x5_1 (wrap64 ((x5_1.length : Int) - 1))).f1))) = x10_1 then (impl_merged.l0 p1_ k1 (x5_1.set ((wrap64 ((x5_1.length : Int) - 1)) : Int).toNat (⟨(rd_T49 x5_1 (wrap64 ((x5_1.length : Int) - 1))).f0, wrap64 (((rd_T49 x5_1 (wrap64 ((x5_1.length : Int) - 1))).f1) + 1)⟩ : S49)) a0 (wrap64 (x10_1 + 1))) else (if x5_1.length < 8796093022208 then (impl_merged.l0 p1_ k1 (x5_1 ++ [(⟨x10_1, 1⟩ : S49)]) a0 (wrap64 (x10_1 + 1))) else (none))) else (none)) else (none)) else (if x5_1.length < 8796093022208 then (impl_merged.l0 p1_ k1 (x5_1 ++ [(⟨x10_1, 1⟩ : S49)]) a0 (wrap64 (x10_1 + 1))) else (none))) else (impl_merged.l0 p1_ k1 x5_1 a0 (wrap64 (x10_1 + 1)))) = some r := H
    have A6 := aM A60
    clear A60
    by_cases c7 : t326 = true
    ·subst c7
     have H1 : (if (wrap64 ((x5_1.length : Int) - 1)) ≥ 0 then (if 0 ≤ (wrap64 ((x5_1.length : Int) - 1)) then (if (wrap64 ((x5_1.length : Int) - 1)) < (x5_1.length : Int) then (if (wrap64 (((rd_T49 x5_1 (wrap64 ((x5_1.length : Int) - 1))).f0) + ((rd_T49 x5_1 (wrap64 ((x5_1.length : Int) - 1))).f1))) = x10_1 then (impl_merged.l0 p1_ k1 (x5_1.set ((wrap64 ((x5_1.length : Int) - 1)) : Int).toNat (⟨(rd_T49 x5_1 (wrap64 ((x5_1.length : Int) - 1))).f0, wrap64 (((rd_T49 x5_1 (wrap64 ((x5_1.length : Int) - 1))).f1) + 1)⟩ : S49)) a0 (wrap64 (x10_1 + 1))) else (if x5_1.length < 8796093022208 then (impl_merged.l0 p1_ k1 (x5_1 ++ [(⟨x10_1, 1⟩ : S49)]) a0 (wrap64 (x10_1 + 1))) else (none))) else (none)) else (none)) else (if x5_1.length < 8796093022208 then (impl_merged.l0 p1_ k1 (x5_1 ++ [(⟨x10_1, 1⟩ : S49)]) a0 (wrap64 (x10_1 + 1))) else (none))) = some r := by rw [if_pos rfl] at H; exact H
     clear H
     have H := H1
     clear H1
     by_cases c8 : (wrap64 ((x5_1.length : Int) - 1)) ≥ 0
     ·rw [if_pos c8] at H
      have c8b0 : decide (0 ≤ (wrap64 ((x5_1.length : Int) - 1))) = true := decide_eq_true c8
      clear c8
      obtain ⟨ji9, hji9⟩ : ∃ j_ : Int, (wrap64 ((x5_1.length : Int) - 1)) = j_ := ⟨_, rfl⟩
      replace H : (if 0 ≤ (ji9) then (if (ji9) < (x5_1.length : Int) then (if (wrap64 (((rd_T49 x5_1 (ji9)).f0) + ((rd_T49 x5_1 (ji9)).f1))) = x10_1 then (impl_merged.l0 p1_ k1 (x5_1.set ((ji9) : Int).toNat (⟨(rd_T49 x5_1 (ji9)).f0, wrap64 (((rd_T49 x5_1 (ji9)).f1) + 1)⟩ : S49)) a0 (wrap64 (x10_1 + 1))) else (if x5_1.length < 8796093022208 then (impl_merged.l0 p1_ k1 (x5_1 ++ [(⟨x10_1, 1⟩ : S49)]) a0 (wrap64 (x10_1 + 1))) else (none))) else (none)) else (none)) = some r := by first | (rw [hji9] at H; exact H) | (simp only [hji9] at H ⊢; exact H)
      (try rw [hji9] at c8b0)
      (try rw [hji9] at A6)
      have hji9w : (IntKind.i64.wrap ((x5_1.length : Int) - 1)) = ji9 := (i64_w _).trans hji9
      by_cases c10 : 0 ≤ (ji9)
      ·rw [if_pos c10] at H
       have c10b0 : decide (0 ≤ (ji9)) = true := decide_eq_true c10
       clear c10
       by_cases c11 : (ji9) < (x5_1.length : Int)
       ·rw [if_pos c11] at H
        have c11b0 : decide ((ji9) < (x5_1.length : Int)) = true := decide_eq_true c11
        clear c11
        by_cases c12 : (wrap64 (((rd_T49 x5_1 (ji9)).f0) + ((rd_T49 x5_1 (ji9)).f1))) = x10_1
        ·rw [if_pos c12] at H
         have c12b0 : ((wrap64 (((rd_T49 x5_1 (ji9)).f0) + ((rd_T49 x5_1 (ji9)).f1))) == x10_1) = true := beq_iff_eq.mpr c12
         have c12b1 : ((wrap64 (((rd_T49 x5_1 (ji9)).f0) + ((rd_T49 x5_1 (ji9)).f1))) != x10_1) = false := bne_eq_false_iff_eq.mpr c12
         clear c12
         obtain ⟨y330, hy330⟩ : ∃ y_ : List (S49), y_ = (x5_1.set ((ji9) : Int).toNat (⟨(rd_T49 x5_1 (ji9)).f0, wrap64 (((rd_T49 x5_1 (ji9)).f1) + 1)⟩ : S49)) := ⟨_, rfl⟩
         replace H : (impl_merged.l0 p1_ k1 y330 a0 (wrap64 (x10_1 + 1))) = some r := by first | (rw [hy330]; with_reducible exact H) | (have H2_ := (Option.bind_some _ _).symm.trans H; rw [hy330]; with_reducible exact H2_) | (have H2_ := (Option.bind_some _ _).symm.trans H; with_reducible exact H2_) | with_reducible exact H | (rw [hy330]; exact H) | exact H
         have Ny330 := aM hy330
         clear hy330
         have H' := aM H
         clear H
         go_wp2_with (first | (go_at_fn gf; (refine (HP1.out x10_1 true _ A6.out (zH HB.out)).mono ?_); rintro e w14 ⟨rfl, hb⟩; replace p1' := xK p1'.out hb; replace HB := aM (zT (zH HB.out) hb); (try clear hb); obtain ⟨Ao15, co15, eo15⟩ := Kd.R_slice p1'.out; subst eo15; have p327 : 0 ≤ ((ji9) : Int) := of_decide_eq_true (by first | (with_reducible assumption) | assumption); have q327 : (ji9) < (x5_1.length : Int) := of_decide_eq_true (by first | (with_reducible assumption) | assumption); obtain ⟨ad327, e327, hx327_0, hx327_1⟩ := at_T49 (Kd.R_reads' p1'.out).2.2 (ji9) p327 q327; cases e327; replace p327 := eq_true p327; replace q327 := eq_true q327; have p328 : 0 ≤ ((ji9) : Int) := of_decide_eq_true (by first | (with_reducible assumption) | assumption); have q328 : (ji9) < (x5_1.length : Int) := of_decide_eq_true (by first | (with_reducible assumption) | assumption); obtain ⟨ad328, e328, hx328_0, hx328_1⟩ := at_T49 (Kd.R_reads' p1'.out).2.2 (ji9) p328 q328; obtain rfl : ad327 = ad328 := (by injection e328); replace p328 := eq_true p328; replace q328 := eq_true q328; have p329 : 0 ≤ ((ji9) : Int) := of_decide_eq_true (by first | (with_reducible assumption) | assumption); have q329 : (ji9) < (x5_1.length : Int) := of_decide_eq_true (by first | (with_reducible assumption) | assumption); obtain ⟨ad329, e329, hx329_0, hx329_1⟩ := at_T49 (Kd.R_reads' p1'.out).2.2 (ji9) p329 q329; obtain rfl : ad327 = ad329 := (by injection e329); replace p329 := eq_true p329; replace q329 := eq_true q329; have p13 : 0 ≤ ((ji9) : Int) := of_decide_eq_true (by first | (with_reducible assumption) | assumption); have q13 : ((ji9) : Int) < ((x5_1.length : Int) : Int) := of_decide_eq_true (by first | (with_reducible assumption) | assumption); obtain ⟨go13, co13, eo13, gb13, gl13, cl13, HG13⟩ := Kd.R_form p1'.out (by omega); (first | cases eo13 | (injection eo13 with ea_ en_ ec_; (first | subst ea_ | (injection ea_ with ea_; subst ea_)); subst ec_; clear en_)); have GB13 := aM gb13; have GG13 := aM HG13; clear gb13 gl13 HG13; (first | simp only [add_plain] at hx327_0 | skip); (first | simp only [add_plain] at hx327_1 | skip); (first | simp only [add_plain] at hx328_0 | skip); (first | simp only [add_plain] at hx328_1 | skip); (first | simp only [add_plain] at hx329_0 | skip); (first | simp only [add_plain] at hx329_1 | skip); obtain ⟨ce13, hcl13, hM13, hcc13, hfr13⟩ := Kd.R_elem p1'.out z49 ((ji9) : Int) p13 q13; obtain rfl := k49_openM hM13; have hx13_0 : w14.cell? ⟨go13, ((ji9) : Int).toNat * 2, none⟩ = some (.int .i64 ((rd_T49 x5_1 (ji9)).f0)) := hcc13 0 _ rfl; have hx13_1 : w14.cell? ⟨go13, ((ji9) : Int).toNat * 2 + 1, none⟩ = some (.int .i64 ((rd_T49 x5_1 (ji9)).f1)) := hcc13 1 _ rfl; have hf13_0 : w14.frozen? ⟨go13, ((ji9) : Int).toNat * 2, none⟩ = false := hfr13 0; have hf13_1 : w14.frozen? ⟨go13, ((ji9) : Int).toNat * 2 + 1, none⟩ = false := hfr13 1; clear hcl13 hcc13 hfr13 hM13; replace p13 := eq_true p13; replace q13 := eq_true q13; have HX16 := aM (show Kd.R k49 49 w14 w.heap.size (fun _ => True) (.slice (some ⟨go13, 0, none⟩) x5_1.length co15) x5_1 from (xH p1'.out)); obtain ⟨ce16, hcl16, hM16, hcc16, hfr16⟩ := Kd.R_elem HX16.out z49 ((ji9) : Int) (of_decide_eq_true (by first | (with_reducible assumption) | assumption)) (by have h_ : ((ji9) : Int) < ((x5_1.length : Int) : Int) := of_decide_eq_true (by first | (with_reducible assumption) | assumption); first | exact h_ | (have e_ := (Kd.R_reads' p1'.out).1; omega) | simpa using h_); obtain rfl := k49_openM hM16; have HP16 := Kd.R_seg HX16.out ((ji9) : Int) (of_decide_eq_true (by first | (with_reducible assumption) | assumption)) (by have h_ : ((ji9) : Int) < ((x5_1.length : Int) : Int) := of_decide_eq_true (by first | (with_reducible assumption) | assumption); first | exact h_ | (have e_ := (Kd.R_reads' p1'.out).1; omega) | simpa using h_) (seg := [.int .i64 (wrap64 (((rd_T49 x5_1 (ji9)).f1) + 1))]) (j := 1) hcl16 hcc16 (show 2 ≤ 2 from by decide) (x' := (⟨(rd_T49 x5_1 (ji9)).f0, wrap64 (((rd_T49 x5_1 (ji9)).f1) + 1)⟩ : S49)) (k49_mkM _ _ _ (⟨(rd_T49 x5_1 (ji9)).f0, wrap64 (((rd_T49 x5_1 (ji9)).f1) + 1)⟩ : S49) ) (fun _ hk => hk); have hx16_1 := hcc16 1 _ rfl; (try simp only [show (k49).sz = 2 from rfl, Nat.mul_one, Nat.add_zero] at hx16_1); have hf16_1 := hfr16 1; (try simp only [show (k49).sz = 2 from rfl, Nat.mul_one, Nat.add_zero] at hf16_1); clear hcl16 hcc16 hfr16 hM16) | ((with_reducible refine gate_store (t := 3) (p := 44) rfl ?_); (try (rw [drewN_self w14]; generalize hq_ : World.drewN w14 _ = w14; have n0_ := aM (Kd.R_at hq_ p1'.out); have n1_ := aM (below_at hq_ HB.out); clear hq_ p1' HB; have p1' := n0_; have HB := n1_; clear n0_ n1_; (try (have HX16 := aM (show Kd.R k49 49 w14 w.heap.size (fun _ => True) (.slice (some ⟨go13, 0, none⟩) x5_1.length co15) x5_1 from (xH p1'.out)))); (try (obtain ⟨ce16, hcl16, hM16, hcc16, hfr16⟩ := Kd.R_elem HX16.out z49 ((ji9) : Int) (of_decide_eq_true (by first | (with_reducible assumption) | assumption)) (by have h_ : ((ji9) : Int) < ((x5_1.length : Int) : Int) := of_decide_eq_true (by first | (with_reducible assumption) | assumption); first | exact h_ | (have e_ := (Kd.R_reads' p1'.out).1; omega) | simpa using h_))); (try (obtain rfl := k49_openM hM16)); (try (have HP16 := Kd.R_seg HX16.out ((ji9) : Int) (of_decide_eq_true (by first | (with_reducible assumption) | assumption)) (by have h_ : ((ji9) : Int) < ((x5_1.length : Int) : Int) := of_decide_eq_true (by first | (with_reducible assumption) | assumption); first | exact h_ | (have e_ := (Kd.R_reads' p1'.out).1; omega) | simpa using h_) (seg := [.int .i64 (wrap64 (((rd_T49 x5_1 (ji9)).f1) + 1))]) (j := 1) hcl16 hcc16 (show 2 ≤ 2 from by decide) (x' := (⟨(rd_T49 x5_1 (ji9)).f0, wrap64 (((rd_T49 x5_1 (ji9)).f1) + 1)⟩ : S49)) (k49_mkM _ _ _ (⟨(rd_T49 x5_1 (ji9)).f0, wrap64 (((rd_T49 x5_1 (ji9)).f1) + 1)⟩ : S49) ) (fun _ hk => hk))); (try (have hx16_1 := hcc16 1 _ rfl)); (try (try simp only [show (k49).sz = 2 from rfl, Nat.mul_one, Nat.add_zero] at hx16_1)); (try (have hf16_1 := hfr16 1)); (try (try simp only [show (k49).sz = 2 from rfl, Nat.mul_one, Nat.add_zero] at hf16_1)); (try (clear hcl16 hcc16 hfr16 hM16)))); refine store_event (t := 3) (p := 44) (v := ?vo_w17) (w1 := (w14.setCell ⟨go13, ((ji9) : Int).toNat * 2 + 1, none⟩ (.int .i64 (wrap64 (((rd_T49 x5_1 (ji9)).f1) + 1))))) ?hg ?ho ?hn ?hr ?_; (case ho => rfl); (case hg => rfl); (case hn => rfl); (case hr => first | (go_simp; done) | (go_simp; rfl)); intro w17 hw; have hg : w14.grownBy w17 (some go13) := (by rw [hw]; exact HP16.2); have hp_ : Kd.R k49 49 w17 w.heap.size (fun _ => True) (.slice (some ⟨go13, 0, none⟩) x5_1.length co15) y330 := (by rw [hw, Ny330.out]; exact HP16.1); clear HP16; replace p1' := aM (hp_); replace HB := aM ((by rw [hw]; exact zS (HB.out) GB13.out : Below w.heap.size w w17)); clear hg hw hp_))
         repeat (go_quiet (first | (go_at_fn gf; (refine (HP1.out x10_1 true _ A6.out (zH HB.out)).mono ?_); rintro e w14 ⟨rfl, hb⟩; have n0_ := aM (xB (xH p1'.out) hb); have n1_ := aM (zT (zH HB.out) hb); clear p1'; clear HB; have p1' := n0_; have HB := n1_; clear n0_ n1_; (try clear hb); obtain ⟨Ao15, co15, eo15⟩ := Kd.R_slice p1'.out; subst eo15; have p327 : 0 ≤ ((ji9) : Int) := of_decide_eq_true (by first | (with_reducible assumption) | assumption); have q327 : (ji9) < (x5_1.length : Int) := of_decide_eq_true (by first | (with_reducible assumption) | assumption); obtain ⟨ad327, e327, hx327_0, hx327_1⟩ := at_T49 (Kd.R_reads' p1'.out).2.2 (ji9) p327 q327; cases e327; replace p327 := eq_true p327; replace q327 := eq_true q327; have p328 : 0 ≤ ((ji9) : Int) := of_decide_eq_true (by first | (with_reducible assumption) | assumption); have q328 : (ji9) < (x5_1.length : Int) := of_decide_eq_true (by first | (with_reducible assumption) | assumption); obtain ⟨ad328, e328, hx328_0, hx328_1⟩ := at_T49 (Kd.R_reads' p1'.out).2.2 (ji9) p328 q328; obtain rfl : ad327 = ad328 := (by injection e328); replace p328 := eq_true p328; replace q328 := eq_true q328; have p329 : 0 ≤ ((ji9) : Int) := of_decide_eq_true (by first | (with_reducible assumption) | assumption); have q329 : (ji9) < (x5_1.length : Int) := of_decide_eq_true (by first | (with_reducible assumption) | assumption); obtain ⟨ad329, e329, hx329_0, hx329_1⟩ := at_T49 (Kd.R_reads' p1'.out).2.2 (ji9) p329 q329; obtain rfl : ad327 = ad329 := (by injection e329); replace p329 := eq_true p329; replace q329 := eq_true q329; have p13 : 0 ≤ ((ji9) : Int) := of_decide_eq_true (by first | (with_reducible assumption) | assumption); have q13 : ((ji9) : Int) < ((x5_1.length : Int) : Int) := of_decide_eq_true (by first | (with_reducible assumption) | assumption); obtain ⟨go13, co13, eo13, gb13, gl13, cl13, HG13⟩ := Kd.R_form p1'.out (by omega); (first | cases eo13 | (injection eo13 with ea_ en_ ec_; (first | subst ea_ | (injection ea_ with ea_; subst ea_)); subst ec_; clear en_)); have GB13 := aM gb13; have GG13 := aM HG13; clear gb13 gl13 HG13; (first | simp only [add_plain] at hx327_0 | skip); (first | simp only [add_plain] at hx327_1 | skip); (first | simp only [add_plain] at hx328_0 | skip); (first | simp only [add_plain] at hx328_1 | skip); (first | simp only [add_plain] at hx329_0 | skip); (first | simp only [add_plain] at hx329_1 | skip); obtain ⟨ce13, hcl13, hM13, hcc13, hfr13⟩ := Kd.R_elem p1'.out z49 ((ji9) : Int) p13 q13; obtain rfl := k49_openM hM13; have hx13_0 : w14.cell? ⟨go13, ((ji9) : Int).toNat * 2, none⟩ = some (.int .i64 ((rd_T49 x5_1 (ji9)).f0)) := hcc13 0 _ rfl; have hx13_1 : w14.cell? ⟨go13, ((ji9) : Int).toNat * 2 + 1, none⟩ = some (.int .i64 ((rd_T49 x5_1 (ji9)).f1)) := hcc13 1 _ rfl; have hf13_0 : w14.frozen? ⟨go13, ((ji9) : Int).toNat * 2, none⟩ = false := hfr13 0; have hf13_1 : w14.frozen? ⟨go13, ((ji9) : Int).toNat * 2 + 1, none⟩ = false := hfr13 1; clear hcl13 hcc13 hfr13 hM13; replace p13 := eq_true p13; replace q13 := eq_true q13; have HX16 := aM (show Kd.R k49 49 w14 w.heap.size (fun _ => True) (.slice (some ⟨go13, 0, none⟩) x5_1.length co15) x5_1 from (xH p1'.out)); obtain ⟨ce16, hcl16, hM16, hcc16, hfr16⟩ := Kd.R_elem HX16.out z49 ((ji9) : Int) (of_decide_eq_true (by first | (with_reducible assumption) | assumption)) (by have h_ : ((ji9) : Int) < ((x5_1.length : Int) : Int) := of_decide_eq_true (by first | (with_reducible assumption) | assumption); first | exact h_ | (have e_ := (Kd.R_reads' p1'.out).1; omega) | simpa using h_); obtain rfl := k49_openM hM16; have HP16 := Kd.R_seg HX16.out ((ji9) : Int) (of_decide_eq_true (by first | (with_reducible assumption) | assumption)) (by have h_ : ((ji9) : Int) < ((x5_1.length : Int) : Int) := of_decide_eq_true (by first | (with_reducible assumption) | assumption); first | exact h_ | (have e_ := (Kd.R_reads' p1'.out).1; omega) | simpa using h_) (seg := [.int .i64 (wrap64 (((rd_T49 x5_1 (ji9)).f1) + 1))]) (j := 1) hcl16 hcc16 (show 2 ≤ 2 from by decide) (x' := (⟨(rd_T49 x5_1 (ji9)).f0, wrap64 (((rd_T49 x5_1 (ji9)).f1) + 1)⟩ : S49)) (k49_mkM _ _ _ (⟨(rd_T49 x5_1 (ji9)).f0, wrap64 (((rd_T49 x5_1 (ji9)).f1) + 1)⟩ : S49) ) (fun _ hk => hk); have hx16_1 := hcc16 1 _ rfl; (try simp only [show (k49).sz = 2 from rfl, Nat.mul_one, Nat.add_zero] at hx16_1); have hf16_1 := hfr16 1; (try simp only [show (k49).sz = 2 from rfl, Nat.mul_one, Nat.add_zero] at hf16_1); clear hcl16 hcc16 hfr16 hM16) | ((with_reducible refine gate_store (t := 3) (p := 44) rfl ?_); (try (rw [drewN_self w14]; generalize hq_ : World.drewN w14 _ = w14; have n0_ := aM (Kd.R_at hq_ p1'.out); have n1_ := aM (below_at hq_ HB.out); clear hq_ p1' HB; have p1' := n0_; have HB := n1_; clear n0_ n1_; (try (have HX16 := aM (show Kd.R k49 49 w14 w.heap.size (fun _ => True) (.slice (some ⟨go13, 0, none⟩) x5_1.length co15) x5_1 from (xH p1'.out)))); (try (obtain ⟨ce16, hcl16, hM16, hcc16, hfr16⟩ := Kd.R_elem HX16.out z49 ((ji9) : Int) (of_decide_eq_true (by first | (with_reducible assumption) | assumption)) (by have h_ : ((ji9) : Int) < ((x5_1.length : Int) : Int) := of_decide_eq_true (by first | (with_reducible assumption) | assumption); first | exact h_ | (have e_ := (Kd.R_reads' p1'.out).1; omega) | simpa using h_))); (try (obtain rfl := k49_openM hM16)); (try (have HP16 := Kd.R_seg HX16.out ((ji9) : Int) (of_decide_eq_true (by first | (with_reducible assumption) | assumption)) (by have h_ : ((ji9) : Int) < ((x5_1.length : Int) : Int) := of_decide_eq_true (by first | (with_reducible assumption) | assumption); first | exact h_ | (have e_ := (Kd.R_reads' p1'.out).1; omega) | simpa using h_) (seg := [.int .i64 (wrap64 (((rd_T49 x5_1 (ji9)).f1) + 1))]) (j := 1) hcl16 hcc16 (show 2 ≤ 2 from by decide) (x' := (⟨(rd_T49 x5_1 (ji9)).f0, wrap64 (((rd_T49 x5_1 (ji9)).f1) + 1)⟩ : S49)) (k49_mkM _ _ _ (⟨(rd_T49 x5_1 (ji9)).f0, wrap64 (((rd_T49 x5_1 (ji9)).f1) + 1)⟩ : S49) ) (fun _ hk => hk))); (try (have hx16_1 := hcc16 1 _ rfl)); (try (try simp only [show (k49).sz = 2 from rfl, Nat.mul_one, Nat.add_zero] at hx16_1)); (try (have hf16_1 := hfr16 1)); (try (try simp only [show (k49).sz = 2 from rfl, Nat.mul_one, Nat.add_zero] at hf16_1)); (try (clear hcl16 hcc16 hfr16 hM16)))); refine store_event (t := 3) (p := 44) (v := ?vo_w17) (w1 := (w14.setCell ⟨go13, ((ji9) : Int).toNat * 2 + 1, none⟩ (.int .i64 (wrap64 (((rd_T49 x5_1 (ji9)).f1) + 1))))) ?hg ?ho ?hn ?hr ?_; (case ho => rfl); (case hg => rfl); (case hn => rfl); (case hr => first | (go_simp; done) | (go_simp; rfl)); intro w17 hw; have hg : w14.grownBy w17 (some go13) := (by rw [hw]; exact HP16.2); have hp_ : Kd.R k49 49 w17 w.heap.size (fun _ => True) (.slice (some ⟨go13, 0, none⟩) x5_1.length co15) y330 := (by rw [hw, Ny330.out]; exact HP16.1); clear HP16; have n0_ := aM (hp_); have n1_ := aM ((by rw [hw]; exact zS (HB.out) GB13.out : Below w.heap.size w w17)); clear p1'; clear HB; have p1' := n0_; have HB := n1_; clear n0_ n1_; clear hg hw hp_)); try go_wp2_with (first | (go_at_fn gf; (refine (HP1.out x10_1 true _ A6.out (zH HB.out)).mono ?_); rintro e w14 ⟨rfl, hb⟩; have n0_ := aM (xB (xH p1'.out) hb); have n1_ := aM (zT (zH HB.out) hb); clear p1'; clear HB; have p1' := n0_; have HB := n1_; clear n0_ n1_; (try clear hb); obtain ⟨Ao15, co15, eo15⟩ := Kd.R_slice p1'.out; subst eo15; have p327 : 0 ≤ ((ji9) : Int) := of_decide_eq_true (by first | (with_reducible assumption) | assumption); have q327 : (ji9) < (x5_1.length : Int) := of_decide_eq_true (by first | (with_reducible assumption) | assumption); obtain ⟨ad327, e327, hx327_0, hx327_1⟩ := at_T49 (Kd.R_reads' p1'.out).2.2 (ji9) p327 q327; cases e327; replace p327 := eq_true p327; replace q327 := eq_true q327; have p328 : 0 ≤ ((ji9) : Int) := of_decide_eq_true (by first | (with_reducible assumption) | assumption); have q328 : (ji9) < (x5_1.length : Int) := of_decide_eq_true (by first | (with_reducible assumption) | assumption); obtain ⟨ad328, e328, hx328_0, hx328_1⟩ := at_T49 (Kd.R_reads' p1'.out).2.2 (ji9) p328 q328; obtain rfl : ad327 = ad328 := (by injection e328); replace p328 := eq_true p328; replace q328 := eq_true q328; have p329 : 0 ≤ ((ji9) : Int) := of_decide_eq_true (by first | (with_reducible assumption) | assumption); have q329 : (ji9) < (x5_1.length : Int) := of_decide_eq_true (by first | (with_reducible assumption) | assumption); obtain ⟨ad329, e329, hx329_0, hx329_1⟩ := at_T49 (Kd.R_reads' p1'.out).2.2 (ji9) p329 q329; obtain rfl : ad327 = ad329 := (by injection e329); replace p329 := eq_true p329; replace q329 := eq_true q329; have p13 : 0 ≤ ((ji9) : Int) := of_decide_eq_true (by first | (with_reducible assumption) | assumption); have q13 : ((ji9) : Int) < ((x5_1.length : Int) : Int) := of_decide_eq_true (by first | (with_reducible assumption) | assumption); obtain ⟨go13, co13, eo13, gb13, gl13, cl13, HG13⟩ := Kd.R_form p1'.out (by omega); (first | cases eo13 | (injection eo13 with ea_ en_ ec_; (first | subst ea_ | (injection ea_ with ea_; subst ea_)); subst ec_; clear en_)); have GB13 := aM gb13; have GG13 := aM HG13; clear gb13 gl13 HG13; (first | simp only [add_plain] at hx327_0 | skip); (first | simp only [add_plain] at hx327_1 | skip); (first | simp only [add_plain] at hx328_0 | skip); (first | simp only [add_plain] at hx328_1 | skip); (first | simp only [add_plain] at hx329_0 | skip); (first | simp only [add_plain] at hx329_1 | skip); obtain ⟨ce13, hcl13, hM13, hcc13, hfr13⟩ := Kd.R_elem p1'.out z49 ((ji9) : Int) p13 q13; obtain rfl := k49_openM hM13; have hx13_0 : w14.cell? ⟨go13, ((ji9) : Int).toNat * 2, none⟩ = some (.int .i64 ((rd_T49 x5_1 (ji9)).f0)) := hcc13 0 _ rfl; have hx13_1 : w14.cell? ⟨go13, ((ji9) : Int).toNat * 2 + 1, none⟩ = some (.int .i64 ((rd_T49 x5_1 (ji9)).f1)) := hcc13 1 _ rfl; have hf13_0 : w14.frozen? ⟨go13, ((ji9) : Int).toNat * 2, none⟩ = false := hfr13 0; have hf13_1 : w14.frozen? ⟨go13, ((ji9) : Int).toNat * 2 + 1, none⟩ = false := hfr13 1; clear hcl13 hcc13 hfr13 hM13; replace p13 := eq_true p13; replace q13 := eq_true q13; have HX16 := aM (show Kd.R k49 49 w14 w.heap.size (fun _ => True) (.slice (some ⟨go13, 0, none⟩) x5_1.length co15) x5_1 from (xH p1'.out)); obtain ⟨ce16, hcl16, hM16, hcc16, hfr16⟩ := Kd.R_elem HX16.out z49 ((ji9) : Int) (of_decide_eq_true (by first | (with_reducible assumption) | assumption)) (by have h_ : ((ji9) : Int) < ((x5_1.length : Int) : Int) := of_decide_eq_true (by first | (with_reducible assumption) | assumption); first | exact h_ | (have e_ := (Kd.R_reads' p1'.out).1; omega) | simpa using h_); obtain rfl := k49_openM hM16; have HP16 := Kd.R_seg HX16.out ((ji9) : Int) (of_decide_eq_true (by first | (with_reducible assumption) | assumption)) (by have h_ : ((ji9) : Int) < ((x5_1.length : Int) : Int) := of_decide_eq_true (by first | (with_reducible assumption) | assumption); first | exact h_ | (have e_ := (Kd.R_reads' p1'.out).1; omega) | simpa using h_) (seg := [.int .i64 (wrap64 (((rd_T49 x5_1 (ji9)).f1) + 1))]) (j := 1) hcl16 hcc16 (show 2 ≤ 2 from by decide) (x' := (⟨(rd_T49 x5_1 (ji9)).f0, wrap64 (((rd_T49 x5_1 (ji9)).f1) + 1)⟩ : S49)) (k49_mkM _ _ _ (⟨(rd_T49 x5_1 (ji9)).f0, wrap64 (((rd_T49 x5_1 (ji9)).f1) + 1)⟩ : S49) ) (fun _ hk => hk); have hx16_1 := hcc16 1 _ rfl; (try simp only [show (k49).sz = 2 from rfl, Nat.mul_one, Nat.add_zero] at hx16_1); have hf16_1 := hfr16 1; (try simp only [show (k49).sz = 2 from rfl, Nat.mul_one, Nat.add_zero] at hf16_1); clear hcl16 hcc16 hfr16 hM16) | ((with_reducible refine gate_store (t := 3) (p := 44) rfl ?_); (try (rw [drewN_self w14]; generalize hq_ : World.drewN w14 _ = w14; have n0_ := aM (Kd.R_at hq_ p1'.out); have n1_ := aM (below_at hq_ HB.out); clear hq_ p1' HB; have p1' := n0_; have HB := n1_; clear n0_ n1_; (try (have HX16 := aM (show Kd.R k49 49 w14 w.heap.size (fun _ => True) (.slice (some ⟨go13, 0, none⟩) x5_1.length co15) x5_1 from (xH p1'.out)))); (try (obtain ⟨ce16, hcl16, hM16, hcc16, hfr16⟩ := Kd.R_elem HX16.out z49 ((ji9) : Int) (of_decide_eq_true (by first | (with_reducible assumption) | assumption)) (by have h_ : ((ji9) : Int) < ((x5_1.length : Int) : Int) := of_decide_eq_true (by first | (with_reducible assumption) | assumption); first | exact h_ | (have e_ := (Kd.R_reads' p1'.out).1; omega) | simpa using h_))); (try (obtain rfl := k49_openM hM16)); (try (have HP16 := Kd.R_seg HX16.out ((ji9) : Int) (of_decide_eq_true (by first | (with_reducible assumption) | assumption)) (by have h_ : ((ji9) : Int) < ((x5_1.length : Int) : Int) := of_decide_eq_true (by first | (with_reducible assumption) | assumption); first | exact h_ | (have e_ := (Kd.R_reads' p1'.out).1; omega) | simpa using h_) (seg := [.int .i64 (wrap64 (((rd_T49 x5_1 (ji9)).f1) + 1))]) (j := 1) hcl16 hcc16 (show 2 ≤ 2 from by decide) (x' := (⟨(rd_T49 x5_1 (ji9)).f0, wrap64 (((rd_T49 x5_1 (ji9)).f1) + 1)⟩ : S49)) (k49_mkM _ _ _ (⟨(rd_T49 x5_1 (ji9)).f0, wrap64 (((rd_T49 x5_1 (ji9)).f1) + 1)⟩ : S49) ) (fun _ hk => hk))); (try (have hx16_1 := hcc16 1 _ rfl)); (try (try simp only [show (k49).sz = 2 from rfl, Nat.mul_one, Nat.add_zero] at hx16_1)); (try (have hf16_1 := hfr16 1)); (try (try simp only [show (k49).sz = 2 from rfl, Nat.mul_one, Nat.add_zero] at hf16_1)); (try (clear hcl16 hcc16 hfr16 hM16)))); refine store_event (t := 3) (p := 44) (v := ?vo_w17) (w1 := (w14.setCell ⟨go13, ((ji9) : Int).toNat * 2 + 1, none⟩ (.int .i64 (wrap64 (((rd_T49 x5_1 (ji9)).f1) + 1))))) ?hg ?ho ?hn ?hr ?_; (case ho => rfl); (case hg => rfl); (case hn => rfl); (case hr => first | (go_simp; done) | (go_simp; rfl)); intro w17 hw; have hg : w14.grownBy w17 (some go13) := (by rw [hw]; exact HP16.2); have hp_ : Kd.R k49 49 w17 w.heap.size (fun _ => True) (.slice (some ⟨go13, 0, none⟩) x5_1.length co15) y330 := (by rw [hw, Ny330.out]; exact HP16.1); clear HP16; have n0_ := aM (hp_); have n1_ := aM ((by rw [hw]; exact zS (HB.out) GB13.out : Below w.heap.size w w17)); clear p1'; clear HB; have p1' := n0_; have HB := n1_; clear n0_ n1_; clear hg hw hp_)))
         go_roundg k1
         case measure => have := HK1.out; omega
         case rel => exact ⟨(y330), (wrap64 (x10_1 + 1)), (by first | rfl | (simp; done) | (simp [*]; done)), H', ⟨by have := HK1.out; omega⟩, ⟨xH p1'.out⟩, ⟨zH HB.out⟩⟩
        ·rw [if_neg c12] at H
         have c12b0 : ((wrap64 (((rd_T49 x5_1 (ji9)).f0) + ((rd_T49 x5_1 (ji9)).f1))) == x10_1) = false := beq_eq_false_iff_ne.mpr c12
         have c12b1 : ((wrap64 (((rd_T49 x5_1 (ji9)).f0) + ((rd_T49 x5_1 (ji9)).f1))) != x10_1) = true := bne_iff_ne.mpr c12
         by_cases c18 : x5_1.length < 8796093022208
         ·rw [if_pos c18] at H
          have LMc18 := aM c18
          clear c18
          obtain ⟨y331, hy331⟩ : ∃ y_ : List (S49), y_ = (x5_1 ++ [(⟨x10_1, 1⟩ : S49)]) := ⟨_, rfl⟩
          replace H : (impl_merged.l0 p1_ k1 y331 a0 (wrap64 (x10_1 + 1))) = some r := by first | (rw [hy331]; with_reducible exact H) | (have H2_ := (Option.bind_some _ _).symm.trans H; rw [hy331]; with_reducible exact H2_) | (have H2_ := (Option.bind_some _ _).symm.trans H; with_reducible exact H2_) | with_reducible exact H | (rw [hy331]; exact H) | exact H
          have Ny331 := aM hy331
          clear hy331
          have H' := aM H
          clear H
          go_wp2_with (first | (go_at_fn gf; (refine (HP1.out x10_1 true _ A6.out (zH HB.out)).mono ?_); rintro e w19 ⟨rfl, hb⟩; replace p1' := xK p1'.out hb; replace HB := aM (zT (zH HB.out) hb); (try clear hb); obtain ⟨Ao20, co20, eo20⟩ := Kd.R_slice p1'.out; subst eo20; have p327 : 0 ≤ ((ji9) : Int) := of_decide_eq_true (by first | (with_reducible assumption) | assumption); have q327 : (ji9) < (x5_1.length : Int) := of_decide_eq_true (by first | (with_reducible assumption) | assumption); obtain ⟨ad327, e327, hx327_0, hx327_1⟩ := at_T49 (Kd.R_reads' p1'.out).2.2 (ji9) p327 q327; cases e327; replace p327 := eq_true p327; replace q327 := eq_true q327; have p328 : 0 ≤ ((ji9) : Int) := of_decide_eq_true (by first | (with_reducible assumption) | assumption); have q328 : (ji9) < (x5_1.length : Int) := of_decide_eq_true (by first | (with_reducible assumption) | assumption); obtain ⟨ad328, e328, hx328_0, hx328_1⟩ := at_T49 (Kd.R_reads' p1'.out).2.2 (ji9) p328 q328; obtain rfl : ad327 = ad328 := (by injection e328); replace p328 := eq_true p328; replace q328 := eq_true q328) | ((with_reducible refine gate_builtin (b := .append) (xs := #[.tmp 45, .tmp 48]) rfl ?_); at_builtin; refine Kd.R_append k49 (w0 := w) w.heap.size rfl (.tmp 45) (.tmp 48) 22 49 (.agg #[(.int .i64 0), (.int .i64 0)]) 16 rfl Try.underlying22 info49 rfl (by decide) (by omega) (.slice (some ad327) x5_1.length co20) x5_1 (⟨x10_1, 1⟩ : S49) [.int .i64 x10_1, .int .i64 1] (fun _ => True) (fun _ => False) rfl rfl ?aP (fun _ hk => hk.elim) ?aF ?aO ?aB ?aS ?aL ?_; (case aP => exact k49_mkM _ _ _ (⟨x10_1, 1⟩ : S49)); (case aB => exact (zH HB.out)); (case aF => exact (fun _ _ => trivial)); (case aO => exact (xH p1'.out)); (case aS => exact (zZ (zH HB.out))); (case aL => have := LMc18.out; omega); intro v332 w21 ho hb hg hat; rw [← Ny331.out] at ho; replace HB := aM (hb); have HO333 := aM (ho); clear p1'; clear ho hb hg hat))
          repeat (go_quiet (first | (go_at_fn gf; (refine (HP1.out x10_1 true _ A6.out (zH HB.out)).mono ?_); rintro e w19 ⟨rfl, hb⟩; have n0_ := aM (xB (xH p1'.out) hb); have n1_ := aM (zT (zH HB.out) hb); clear p1'; clear HB; have p1' := n0_; have HB := n1_; clear n0_ n1_; (try clear hb); obtain ⟨Ao20, co20, eo20⟩ := Kd.R_slice p1'.out; subst eo20; have p327 : 0 ≤ ((ji9) : Int) := of_decide_eq_true (by first | (with_reducible assumption) | assumption); have q327 : (ji9) < (x5_1.length : Int) := of_decide_eq_true (by first | (with_reducible assumption) | assumption); obtain ⟨ad327, e327, hx327_0, hx327_1⟩ := at_T49 (Kd.R_reads' p1'.out).2.2 (ji9) p327 q327; cases e327; replace p327 := eq_true p327; replace q327 := eq_true q327; have p328 : 0 ≤ ((ji9) : Int) := of_decide_eq_true (by first | (with_reducible assumption) | assumption); have q328 : (ji9) < (x5_1.length : Int) := of_decide_eq_true (by first | (with_reducible assumption) | assumption); obtain ⟨ad328, e328, hx328_0, hx328_1⟩ := at_T49 (Kd.R_reads' p1'.out).2.2 (ji9) p328 q328; obtain rfl : ad327 = ad328 := (by injection e328); replace p328 := eq_true p328; replace q328 := eq_true q328) | ((with_reducible refine gate_builtin (b := .append) (xs := #[.tmp 45, .tmp 48]) rfl ?_); at_builtin; refine Kd.R_append k49 (w0 := w) w.heap.size rfl (.tmp 45) (.tmp 48) 22 49 (.agg #[(.int .i64 0), (.int .i64 0)]) 16 rfl Try.underlying22 info49 rfl (by decide) (by omega) (.slice (some ad327) x5_1.length co20) x5_1 (⟨x10_1, 1⟩ : S49) [.int .i64 x10_1, .int .i64 1] (fun _ => True) (fun _ => False) rfl rfl ?aP (fun _ hk => hk.elim) ?aF ?aO ?aB ?aS ?aL ?_; (case aP => exact k49_mkM _ _ _ (⟨x10_1, 1⟩ : S49)); (case aB => exact (zH HB.out)); (case aF => exact (fun _ _ => trivial)); (case aO => exact (xH p1'.out)); (case aS => exact (zZ (zH HB.out))); (case aL => have := LMc18.out; omega); intro v332 w21 ho hb hg hat; rw [← Ny331.out] at ho; have n0_ := aM (hb); have n1_ := aM (ho); clear HB; clear p1'; have HB := n0_; have HO333 := n1_; clear n0_ n1_; clear ho hb hg hat)); try go_wp2_with (first | (go_at_fn gf; (refine (HP1.out x10_1 true _ A6.out (zH HB.out)).mono ?_); rintro e w19 ⟨rfl, hb⟩; have n0_ := aM (xB (xH p1'.out) hb); have n1_ := aM (zT (zH HB.out) hb); clear p1'; clear HB; have p1' := n0_; have HB := n1_; clear n0_ n1_; (try clear hb); obtain ⟨Ao20, co20, eo20⟩ := Kd.R_slice p1'.out; subst eo20; have p327 : 0 ≤ ((ji9) : Int) := of_decide_eq_true (by first | (with_reducible assumption) | assumption); have q327 : (ji9) < (x5_1.length : Int) := of_decide_eq_true (by first | (with_reducible assumption) | assumption); obtain ⟨ad327, e327, hx327_0, hx327_1⟩ := at_T49 (Kd.R_reads' p1'.out).2.2 (ji9) p327 q327; cases e327; replace p327 := eq_true p327; replace q327 := eq_true q327; have p328 : 0 ≤ ((ji9) : Int) := of_decide_eq_true (by first | (with_reducible assumption) | assumption); have q328 : (ji9) < (x5_1.length : Int) := of_decide_eq_true (by first | (with_reducible assumption) | assumption); obtain ⟨ad328, e328, hx328_0, hx328_1⟩ := at_T49 (Kd.R_reads' p1'.out).2.2 (ji9) p328 q328; obtain rfl : ad327 = ad328 := (by injection e328); replace p328 := eq_true p328; replace q328 := eq_true q328) | ((with_reducible refine gate_builtin (b := .append) (xs := #[.tmp 45, .tmp 48]) rfl ?_); at_builtin; refine Kd.R_append k49 (w0 := w) w.heap.size rfl (.tmp 45) (.tmp 48) 22 49 (.agg #[(.int .i64 0), (.int .i64 0)]) 16 rfl Try.underlying22 info49 rfl (by decide) (by omega) (.slice (some ad327) x5_1.length co20) x5_1 (⟨x10_1, 1⟩ : S49) [.int .i64 x10_1, .int .i64 1] (fun _ => True) (fun _ => False) rfl rfl ?aP (fun _ hk => hk.elim) ?aF ?aO ?aB ?aS ?aL ?_; (case aP => exact k49_mkM _ _ _ (⟨x10_1, 1⟩ : S49)); (case aB => exact (zH HB.out)); (case aF => exact (fun _ _ => trivial)); (case aO => exact (xH p1'.out)); (case aS => exact (zZ (zH HB.out))); (case aL => have := LMc18.out; omega); intro v332 w21 ho hb hg hat; rw [← Ny331.out] at ho; have n0_ := aM (hb); have n1_ := aM (ho); clear HB; clear p1'; have HB := n0_; have HO333 := n1_; clear n0_ n1_; clear ho hb hg hat)))
          go_roundg k1
          case measure => have := HK1.out; omega
          case rel => exact ⟨(y331), (wrap64 (x10_1 + 1)), (by first | rfl | (simp; done) | (simp [*]; done)), H', ⟨by have := HK1.out; omega⟩, ⟨xH HO333.out⟩, ⟨zH HB.out⟩⟩
         ·rw [if_neg c18] at H
          exact absurd H (by simp)
       ·rw [if_neg c11] at H
        exact absurd H (by simp)
      ·rw [if_neg c10] at H
       exact absurd H (by simp)
     ·rw [if_neg c8] at H
      have c8b0 : decide (0 ≤ (wrap64 ((x5_1.length : Int) - 1))) = false := decide_eq_false c8
      clear c8
      by_cases c22 : x5_1.length < 8796093022208
      ·rw [if_pos c22] at H
       have LMc22 := aM c22
       clear c22
       obtain ⟨y334, hy334⟩ : ∃ y_ : List (S49), y_ = (x5_1 ++ [(⟨x10_1, 1⟩ : S49)]) := ⟨_, rfl⟩
       replace H : (impl_merged.l0 p1_ k1 y334 a0 (wrap64 (x10_1 + 1))) = some r := by first | (rw [hy334]; with_reducible exact H) | (have H2_ := (Option.bind_some _ _).symm.trans H; rw [hy334]; with_reducible exact H2_) | (have H2_ := (Option.bind_some _ _).symm.trans H; with_reducible exact H2_) | with_reducible exact H | (rw [hy334]; exact H) | exact H
       have Ny334 := aM hy334
       clear hy334
       have H' := aM H
       clear H
       go_wp2_with (first | (go_at_fn gf; (refine (HP1.out x10_1 true _ A6.out (zH HB.out)).mono ?_); rintro e w23 ⟨rfl, hb⟩; replace p1' := xK p1'.out hb; replace HB := aM (zT (zH HB.out) hb); (try clear hb); obtain ⟨Ao24, co24, eo24⟩ := Kd.R_slice p1'.out; subst eo24) | ((with_reducible refine gate_builtin (b := .append) (xs := #[.tmp 45, .tmp 48]) rfl ?_); at_builtin; refine Kd.R_append k49 (w0 := w) w.heap.size rfl (.tmp 45) (.tmp 48) 22 49 (.agg #[(.int .i64 0), (.int .i64 0)]) 16 rfl Try.underlying22 info49 rfl (by decide) (by omega) (.slice Ao24 x5_1.length co24) x5_1 (⟨x10_1, 1⟩ : S49) [.int .i64 x10_1, .int .i64 1] (fun _ => True) (fun _ => False) rfl rfl ?aP (fun _ hk => hk.elim) ?aF ?aO ?aB ?aS ?aL ?_; (case aP => exact k49_mkM _ _ _ (⟨x10_1, 1⟩ : S49)); (case aB => exact (zH HB.out)); (case aF => exact (fun _ _ => trivial)); (case aO => exact (xH p1'.out)); (case aS => exact (zZ (zH HB.out))); (case aL => have := LMc22.out; omega); intro v335 w25 ho hb hg hat; rw [← Ny334.out] at ho; replace HB := aM (hb); have HO336 := aM (ho); clear p1'; clear ho hb hg hat))
       repeat (go_quiet (first | (go_at_fn gf; (refine (HP1.out x10_1 true _ A6.out (zH HB.out)).mono ?_); rintro e w23 ⟨rfl, hb⟩; have n0_ := aM (xB (xH p1'.out) hb); have n1_ := aM (zT (zH HB.out) hb); clear p1'; clear HB; have p1' := n0_; have HB := n1_; clear n0_ n1_; (try clear hb); obtain ⟨Ao24, co24, eo24⟩ := Kd.R_slice p1'.out; subst eo24) | ((with_reducible refine gate_builtin (b := .append) (xs := #[.tmp 45, .tmp 48]) rfl ?_); at_builtin; refine Kd.R_append k49 (w0 := w) w.heap.size rfl (.tmp 45) (.tmp 48) 22 49 (.agg #[(.int .i64 0), (.int .i64 0)]) 16 rfl Try.underlying22 info49 rfl (by decide) (by omega) (.slice Ao24 x5_1.length co24) x5_1 (⟨x10_1, 1⟩ : S49) [.int .i64 x10_1, .int .i64 1] (fun _ => True) (fun _ => False) rfl rfl ?aP (fun _ hk => hk.elim) ?aF ?aO ?aB ?aS ?aL ?_; (case aP => exact k49_mkM _ _ _ (⟨x10_1, 1⟩ : S49)); (case aB => exact (zH HB.out)); (case aF => exact (fun _ _ => trivial)); (case aO => exact (xH p1'.out)); (case aS => exact (zZ (zH HB.out))); (case aL => have := LMc22.out; omega); intro v335 w25 ho hb hg hat; rw [← Ny334.out] at ho; have n0_ := aM (hb); have n1_ := aM (ho); clear HB; clear p1'; have HB := n0_; have HO336 := n1_; clear n0_ n1_; clear ho hb hg hat)); try go_wp2_with (first | (go_at_fn gf; (refine (HP1.out x10_1 true _ A6.out (zH HB.out)).mono ?_); rintro e w23 ⟨rfl, hb⟩; have n0_ := aM (xB (xH p1'.out) hb); have n1_ := aM (zT (zH HB.out) hb); clear p1'; clear HB; have p1' := n0_; have HB := n1_; clear n0_ n1_; (try clear hb); obtain ⟨Ao24, co24, eo24⟩ := Kd.R_slice p1'.out; subst eo24) | ((with_reducible refine gate_builtin (b := .append) (xs := #[.tmp 45, .tmp 48]) rfl ?_); at_builtin; refine Kd.R_append k49 (w0 := w) w.heap.size rfl (.tmp 45) (.tmp 48) 22 49 (.agg #[(.int .i64 0), (.int .i64 0)]) 16 rfl Try.underlying22 info49 rfl (by decide) (by omega) (.slice Ao24 x5_1.length co24) x5_1 (⟨x10_1, 1⟩ : S49) [.int .i64 x10_1, .int .i64 1] (fun _ => True) (fun _ => False) rfl rfl ?aP (fun _ hk => hk.elim) ?aF ?aO ?aB ?aS ?aL ?_; (case aP => exact k49_mkM _ _ _ (⟨x10_1, 1⟩ : S49)); (case aB => exact (zH HB.out)); (case aF => exact (fun _ _ => trivial)); (case aO => exact (xH p1'.out)); (case aS => exact (zZ (zH HB.out))); (case aL => have := LMc22.out; omega); intro v335 w25 ho hb hg hat; rw [← Ny334.out] at ho; have n0_ := aM (hb); have n1_ := aM (ho); clear HB; clear p1'; have HB := n0_; have HO336 := n1_; clear n0_ n1_; clear ho hb hg hat)))
       go_roundg k1
       case measure => have := HK1.out; omega
       case rel => exact ⟨(y334), (wrap64 (x10_1 + 1)), (by first | rfl | (simp; done) | (simp [*]; done)), H', ⟨by have := HK1.out; omega⟩, ⟨xH HO336.out⟩, ⟨zH HB.out⟩⟩
      ·rw [if_neg c22] at H
       exact absurd H (by simp)
    ·replace c7 := Bool.eq_false_iff.mpr c7
     subst c7
     have H1 : (impl_merged.l0 p1_ k1 x5_1 a0 (wrap64 (x10_1 + 1))) = some r := by rw [if_neg (show ¬ (false = true) by decide)] at H; exact H
     clear H
     have H := H1
     clear H1
     have H' := aM H
     clear H
     go_wp2_with (first | (go_at_fn gf; (refine (HP1.out x10_1 false _ A6.out (zH HB.out)).mono ?_); rintro e w26 ⟨rfl, hb⟩; replace p1' := xK p1'.out hb; replace HB := aM (zT (zH HB.out) hb); (try clear hb)))
     repeat (go_quiet (first | (go_at_fn gf; (refine (HP1.out x10_1 false _ A6.out (zH HB.out)).mono ?_); rintro e w26 ⟨rfl, hb⟩; have n0_ := aM (xB (xH p1'.out) hb); have n1_ := aM (zT (zH HB.out) hb); clear p1'; clear HB; have p1' := n0_; have HB := n1_; clear n0_ n1_; (try clear hb))); try go_wp2_with (first | (go_at_fn gf; (refine (HP1.out x10_1 false _ A6.out (zH HB.out)).mono ?_); rintro e w26 ⟨rfl, hb⟩; have n0_ := aM (xB (xH p1'.out) hb); have n1_ := aM (zT (zH HB.out) hb); clear p1'; clear HB; have p1' := n0_; have HB := n1_; clear n0_ n1_; (try clear hb))))
     go_roundg k1
     case measure => have := HK1.out; omega
     case rel => exact ⟨(x5_1), (wrap64 (x10_1 + 1)), (by first | rfl | (simp; done) | (simp [*]; done)), H', ⟨by have := HK1.out; omega⟩, ⟨xH p1'.out⟩, ⟨zH HB.out⟩⟩
   ·rw [if_neg c5] at H
    have c5b0 : decide (x10_1 < a0) = false := decide_eq_false c5
    clear c5
    obtain rfl := Option.some.inj H
    go_wp2
    repeat (go_quiet (fail); try go_wp2)
    go_ret
    exact ⟨_, by first | rfl | (simp [errW_none, errW_some] <;> rfl) | (simp [*, errW_none, errW_some] <;> rfl), xH p1'.out, zH HB.out⟩

end Go.Proofs.Ytfhfaeeokibhaaa.PFnExactTakeRoom
