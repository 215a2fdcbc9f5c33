/- The walks of FnExactTakeRoom: Go's calls come to what the Lean functions beside them say; no condition. -/
import Derived.Test.YtfhfaeeokibhaaaQFnExactTakeRoomx0
import Derived.Test.YtfhfaeeokibhaaaQFnExactTakeRoomx5
namespace Go.Proofs.Ytfhfaeeokibhaaa.PFnExactTakeRoom
open Go.RowKit Go.Proofs.YtfhfaeeokibhaaaW.PrintWords Go.Proofs.YtfhfaeeokibhaaaW.PrintLast Go.Proofs.YtfhfaeeokibhaaaW.PrintMore
attribute [local go_sem] max2_int min2_int max_two min_two max_three min_three max_four min_four   -- for this text's walks alone
set_option linter.unusedVariables false
set_option linter.unusedSimpArgs false
set_option maxRecDepth 100000

/-! ### spec_l5Pick: function 55 -/
mutual
def spec_l5Pick.l0 : Nat → Int → Int → List (S49) → Int → Int → Option (Int)
 | 0, _, _, _, _, _ => none
 | k + 1, x1, x9, x55, x56, x57 => if x57 < x56 then (if 0 ≤ x57 then (if x57 < (x55.length : Int) then (if ((rd_T49 x55 x57).f1) ≥ x1 then (some ((rd_T49 x55 x57).f0)) else (spec_l5Pick.l0 k x1 x9 x55 x56 (wrap64 (x57 + 1)))) else (none)) else (none)) else (some x9)
def spec_l5Pick.l1 : Nat → Int → Int → List (S49) → Int → Int → Option (Int)
 | 0, _, _, _, _, _ => none
 | k + 1, x1, x9, x71, x72, x73 => if x73 < x72 then (if 0 ≤ x73 then (if x73 < (x71.length : Int) then (if ((rd_T49 x71 x73).f1) ≥ x1 then (some ((rd_T49 x71 x73).f0)) else (spec_l5Pick.l1 k x1 x9 x71 x72 (wrap64 (x73 + 1)))) else (none)) else (none)) else (some x9)
def spec_l5Pick.l2 : Nat → Int → Int → Int → List (S49) → Int → Int → Option (Int)
 | 0, _, _, _, _, _, _ => none
 | k + 1, x1, x3, x9, x20, x21, x22 => if x22 < x21 then (if 0 ≤ x22 then (if x22 < (x20.length : Int) then (spec_l5Pick.l3 k x1 x3 x9 ((rd_T49 x20 x22).f0) x20 x21 x22 ((rd_T49 x20 x22).f0) ((rd_T49 x20 x22).f1)) else (none)) else (none)) else (some x9)
def spec_l5Pick.l3 : Nat → Int → Int → Int → Int → List (S49) → Int → Int → Int → Int → Option (Int)
 | 0, _, _, _, _, _, _, _, _, _ => none
 | k + 1, x1, x3, x9, x17, x20, x21, x22, x266000, x266001 => if (wrap64 (x17 + x1)) ≤ (wrap64 (x266000 + x266001)) then (if x9 < 0 then (spec_l5Pick.l3 k x1 x3 x17 (wrap64 (x17 + 1)) x20 x21 x22 x266000 x266001) else ((spec_l5Gap.f x17 x3).bind fun t266 => ((spec_l5Gap.f x9 x3).bind fun t267 => (if t266 < t267 then (spec_l5Pick.l3 k x1 x3 x17 (wrap64 (x17 + 1)) x20 x21 x22 x266000 x266001) else (spec_l5Pick.l3 k x1 x3 x9 (wrap64 (x17 + 1)) x20 x21 x22 x266000 x266001))))) else (spec_l5Pick.l2 k x1 x3 x9 x20 x21 (wrap64 (x22 + 1)))
end
def spec_l5Pick.f (k : Nat) (a0_0 : Int) (l0_1 : List (S49)) (l0_2 : List (S49)) (a1 : Int) (a2 : Int) (a3 : Int) : Option (Int) := if a2 = 1 then (spec_l5Pick.l0 k a1 (-1) l0_1 (l0_1.length : Int) 0) else (if a2 = 2 then (spec_l5Pick.l1 k a1 (-1) l0_2 (l0_2.length : Int) 0) else (if a2 = 3 then (if (l0_2.length : Int) > 0 then (if 0 ≤ (wrap64 ((l0_2.length : Int) - 1)) then (if (wrap64 ((l0_2.length : Int) - 1)) < (l0_2.length : Int) then (if ((rd_T49 l0_2 (wrap64 ((l0_2.length : Int) - 1))).f1) ≥ a1 then (some ((rd_T49 l0_2 (wrap64 ((l0_2.length : Int) - 1))).f0)) else (some (-1))) else (none)) else (none)) else (some (-1))) else (spec_l5Pick.l2 k a1 a3 (-1) l0_1 (l0_1.length : Int) 0)))
theorem spec_l5Pick.mono_l : ∀ k, (∀ y0 y1 y2 y3 y4, LeO (spec_l5Pick.l0 k y0 y1 y2 y3 y4) (spec_l5Pick.l0 (k + 1) y0 y1 y2 y3 y4)) ∧ (∀ y0 y1 y2 y3 y4, LeO (spec_l5Pick.l1 k y0 y1 y2 y3 y4) (spec_l5Pick.l1 (k + 1) y0 y1 y2 y3 y4)) ∧ (∀ y0 y1 y2 y3 y4 y5, LeO (spec_l5Pick.l2 k y0 y1 y2 y3 y4 y5) (spec_l5Pick.l2 (k + 1) y0 y1 y2 y3 y4 y5)) ∧ (∀ y0 y1 y2 y3 y4 y5 y6 y7 y8, LeO (spec_l5Pick.l3 k y0 y1 y2 y3 y4 y5 y6 y7 y8) (spec_l5Pick.l3 (k + 1) y0 y1 y2 y3 y4 y5 y6 y7 y8))
 | 0 => ⟨fun _ _ _ _ _ r h => by simp [spec_l5Pick.l0] at h, fun _ _ _ _ _ r h => by simp [spec_l5Pick.l1] at h, fun _ _ _ _ _ _ r h => by simp [spec_l5Pick.l2] at h, fun _ _ _ _ _ _ _ _ _ r h => by simp [spec_l5Pick.l3] at h⟩
 | k + 1 => by
  obtain ⟨ih0, ih1, ih2, ih3⟩ := spec_l5Pick.mono_l k
  refine ⟨?_, ?_, ?_, ?_⟩
  ·intro y0 y1 y2 y3 y4
   unfold spec_l5Pick.l0
   repeat' first
   | (with_reducible exact ih0 _ _ _ _ _)
   | (with_reducible exact ih1 _ _ _ _ _)
   | (with_reducible exact ih2 _ _ _ _ _ _)
   | (with_reducible exact ih3 _ _ _ _ _ _ _ _ _)
   | (with_reducible exact LeO.refl _)
   | (with_reducible exact LeO.none _)
   | (with_reducible refine LeO.ite ?_ ?_)
   | (with_reducible refine LeO.bind ?_ (fun _ => ?_))
   | exact ih0 _ _ _ _ _
   | exact ih1 _ _ _ _ _
   | exact ih2 _ _ _ _ _ _
   | exact ih3 _ _ _ _ _ _ _ _ _
   | exact LeO.none _
   | refine LeO.ite ?_ ?_
   | refine LeO.bind ?_ (fun _ => ?_)
  ·intro y0 y1 y2 y3 y4
   unfold spec_l5Pick.l1
   repeat' first
   | (with_reducible exact ih0 _ _ _ _ _)
   | (with_reducible exact ih1 _ _ _ _ _)
   | (with_reducible exact ih2 _ _ _ _ _ _)
   | (with_reducible exact ih3 _ _ _ _ _ _ _ _ _)
   | (with_reducible exact LeO.refl _)
   | (with_reducible exact LeO.none _)
   | (with_reducible refine LeO.ite ?_ ?_)
   | (with_reducible refine LeO.bind ?_ (fun _ => ?_))
   | exact ih0 _ _ _ _ _
   | exact ih1 _ _ _ _ _
   | exact ih2 _ _ _ _ _ _
   | exact ih3 _ _ _ _ _ _ _ _ _
   | exact LeO.none _
   | refine LeO.ite ?_ ?_
   | refine LeO.bind ?_ (fun _ => ?_)
  ·intro y0 y1 y2 y3 y4 y5
   unfold spec_l5Pick.l2
   repeat' first
   | (with_reducible exact ih0 _ _ _ _ _)
   | (with_reducible exact ih1 _ _ _ _ _)
   | (with_reducible exact ih2 _ _ _ _ _ _)
   | (with_reducible exact ih3 _ _ _ _ _ _ _ _ _)
   | (with_reducible exact LeO.refl _)
   | (with_reducible exact LeO.none _)
   | (with_reducible refine LeO.ite ?_ ?_)
   | (with_reducible refine LeO.bind ?_ (fun _ => ?_))
   | exact ih0 _ _ _ _ _
   | exact ih1 _ _ _ _ _
   | exact ih2 _ _ _ _ _ _
   | exact ih3 _ _ _ _ _ _ _ _ _
   | exact LeO.none _
   | refine LeO.ite ?_ ?_
   | refine LeO.bind ?_ (fun _ => ?_)
  ·intro y0 y1 y2 y3 y4 y5 y6 y7 y8
   unfold spec_l5Pick.l3
   repeat' first
   | (with_reducible exact ih0 _ _ _ _ _)
   | (with_reducible exact ih1 _ _ _ _ _)
   | (with_reducible exact ih2 _ _ _ _ _ _)
   | (with_reducible exact ih3 _ _ _ _ _ _ _ _ _)
   | (with_reducible exact LeO.refl _)
   | (with_reducible exact LeO.none _)
   | (with_reducible refine LeO.ite ?_ ?_)
   | (with_reducible refine LeO.bind ?_ (fun _ => ?_))
   | exact ih0 _ _ _ _ _
   | exact ih1 _ _ _ _ _
   | exact ih2 _ _ _ _ _ _
   | exact ih3 _ _ _ _ _ _ _ _ _
   | exact LeO.none _
   | refine LeO.ite ?_ ?_
   | refine LeO.bind ?_ (fun _ => ?_)
theorem spec_l5Pick.mono : ∀ a0 a1 a2 a3 a4 a5 k, LeO (spec_l5Pick.f k a0 a1 a2 a3 a4 a5) (spec_l5Pick.f (k + 1) a0 a1 a2 a3 a4 a5) := by
 intro a0 a1 a2 a3 a4 a5 k
 obtain ⟨ih0, ih1, ih2, ih3⟩ := spec_l5Pick.mono_l k
 unfold spec_l5Pick.f
 repeat' first
   | (with_reducible exact ih0 _ _ _ _ _)
   | (with_reducible exact ih1 _ _ _ _ _)
   | (with_reducible exact ih2 _ _ _ _ _ _)
   | (with_reducible exact ih3 _ _ _ _ _ _ _ _ _)
   | (with_reducible exact LeO.refl _)
   | (with_reducible exact LeO.none _)
   | (with_reducible refine LeO.ite ?_ ?_)
   | (with_reducible refine LeO.bind ?_ (fun _ => ?_))
   | exact ih0 _ _ _ _ _
   | exact ih1 _ _ _ _ _
   | exact ih2 _ _ _ _ _ _
   | exact ih3 _ _ _ _ _ _ _ _ _
   | exact LeO.none _
   | refine LeO.ite ?_ ?_
   | refine LeO.bind ?_ (fun _ => ?_)
set_option maxHeartbeats 8000000 in
set_option maxRecDepth 100000 in
theorem spec_l5Pick.calls (k : Nat) (a0_0 : Int) (A0_1 : Option Addr) (c0_1 : Nat) (l0_1 : List (S49)) (A0_2 : Option Addr) (c0_2 : Nat) (l0_2 : List (S49)) (a1 : Int) (a2 : Int) (a3 : Int) (r : Int) (w : World) (hr0_1 : Kd.C k49 w A0_1 l0_1.length l0_1) (hc0_1 : l0_1.length ≤ c0_1) (hr0_2 : Kd.C k49 w A0_2 l0_2.length l0_2) (hc0_2 : l0_2.length ≤ c0_2) (h : spec_l5Pick.f k a0_0 l0_1 l0_2 a1 a2 a3 = some r) :
  Calls Try.prog 55 #[.agg #[.int .i64 a0_0, .slice A0_1 l0_1.length c0_1, .slice A0_2 l0_2.length c0_2], .int .i64 a1, .int .i64 a2, .int .i64 a3] w fun e w' => e = .returned (.int .i64 r) ∧ Below w.heap.size w w' := by
 have hu24 := Try.underlying24
 have hu49 := Try.underlying49
 have HR0_1 := aM hr0_1
 have HC0_1 := aM hc0_1
 clear hr0_1 hc0_1
 have HR0_2 := aM hr0_2
 have HC0_2 := aM hc0_2
 clear hr0_2 hc0_2
 have HB := aM (Below.refl w.heap.size w)
 have H : (if a2 = 1 then (spec_l5Pick.l0 k a1 (-1) l0_1 (l0_1.length : Int) 0) else (if a2 = 2 then (spec_l5Pick.l1 k a1 (-1) l0_2 (l0_2.length : Int) 0) else (if a2 = 3 then (if (l0_2.length : Int) > 0 then (if 0 ≤ (wrap64 ((l0_2.length : Int) - 1)) then (if (wrap64 ((l0_2.length : Int) - 1)) < (l0_2.length : Int) then (if ((rd_T49 l0_2 (wrap64 ((l0_2.length : Int) - 1))).f1) ≥ a1 then (some ((rd_T49 l0_2 (wrap64 ((l0_2.length : Int) - 1))).f0)) else (some (-1))) else (none)) else (none)) else (some (-1))) else (spec_l5Pick.l2 k a1 a3 (-1) l0_1 (l0_1.length : Int) 0)))) = some r := h
 clear h
 by_cases c5 : a2 = 1
 ·rw [if_pos c5] at H
  have c5b0 : (a2 == 1) = true := beq_iff_eq.mpr c5
  have c5b1 : (a2 != 1) = false := bne_eq_false_iff_eq.mpr c5
  clear c5
  have H' := aM H
  clear H
  go_enter Try.func55, Try.ntmps55
  go_wp2_with (first | ((with_reducible refine gate_dst (N := 4) rfl ?_); refine box_event ?hg (N := 4) ?hd (cs := #[.int .i64 a0_0, .slice A0_1 l0_1.length c0_1, .slice A0_2 l0_2.length c0_2]) (t := 24) ?hr ?_; (case hd => rfl); (case hg => rfl); (case hr => first | (go_simp; done) | (go_simp; rfl)); intro gb257 hg w6 hbox hb; have BK257 := aM (hbox); have GW257 := aM ((by rw [hg]; exact (zZ (zH HB.out)) : w.heap.size ≤ gb257)); have GE257 := aM ((by rw [hg]; exact (zZ (zH HB.out)) : w.heap.size ≤ gb257)); replace HB := aM (zT (zH HB.out) hb); clear hb hbox hg; have hcz7_0 : w6.cell? ⟨gb257, 0, none⟩ = some (.int .i64 a0_0) := yc BK257.out 0; have hcz7_1 : w6.cell? ⟨gb257, 1, none⟩ = some (.slice A0_1 l0_1.length c0_1) := yc BK257.out 1; have hcz7_2 : w6.cell? ⟨gb257, 2, none⟩ = some (.slice A0_2 l0_2.length c0_2) := yc BK257.out 2; have hfz7_0 := yZ BK257.out 0; have hfz7_1 := yZ BK257.out 1; have hfz7_2 := yZ BK257.out 2))
  go_loopg [57] k (fun kq v57 w' => ∃ (x57_1 : Int), v57 = .int .i64 x57_1 ∧ Aside0 (spec_l5Pick.l0 kq a1 (-1) l0_1 (l0_1.length : Int) x57_1 = some r) ∧ Aside0 (kq ≤ k) ∧ Aside0 (w'.heap[gb257]? = some (.cells #[.int .i64 a0_0, (.slice A0_1 l0_1.length c0_1), (.slice A0_2 l0_2.length c0_2)] 24 (0, 0))) ∧ Aside0 (Below w.heap.size w w'))
  case atStart => exact ⟨(0), (by first | rfl | (simp; done) | (simp [*]; done)), H', ⟨Nat.le_refl _⟩, ⟨yH BK257.out⟩, ⟨zH HB.out⟩⟩
  case round =>
   clear H'
   (try clear p2); (try clear c5); (try clear c5b0); (try clear c5b1); (try clear p6); (try clear hcz7_0); (try clear hcz7_1); (try clear hcz7_2); (try clear hfz7_0); (try clear hfz7_1); (try clear hfz7_2)
   obtain ⟨x57_1, rfl, HA, HK1, BK257, HB⟩ := hrel
   cases gk with
   | zero => exact absurd HA.out (fun h_ => by change none = some _ at h_; cases h_)
   | succ k1 =>
    have H := HA.out
    clear HA
    simp only [spec_l5Pick.l0] at H
    by_cases c8 : x57_1 < (l0_1.length : Int)
    ·rw [if_pos c8] at H
     have c8b0 : decide (x57_1 < (l0_1.length : Int)) = true := decide_eq_true c8
     clear c8
     by_cases c9 : 0 ≤ x57_1
     ·rw [if_pos c9] at H
      have c9b0 : decide (0 ≤ x57_1) = true := decide_eq_true c9
      clear c9
      by_cases c10 : x57_1 < (l0_1.length : Int)
      ·rw [if_pos c10] at H
       have c10b0 : decide (x57_1 < (l0_1.length : Int)) = true := decide_eq_true c10
       clear c10
       by_cases c11 : ((rd_T49 l0_1 x57_1).f1) ≥ a1
       ·rw [if_pos c11] at H
        have c11b0 : decide (a1 ≤ ((rd_T49 l0_1 x57_1).f1)) = true := decide_eq_true c11
        clear c11
        obtain rfl := Option.some.inj H
        have p258 : 0 ≤ (x57_1 : Int) := of_decide_eq_true (by first | (with_reducible assumption) | assumption)
        have q258 : x57_1 < (l0_1.length : Int) := of_decide_eq_true (by first | (with_reducible assumption) | assumption)
        obtain ⟨ad258, e258, hx258_0, hx258_1⟩ := at_T49 HR0_1.out x57_1 p258 q258
        cases e258
        replace hx258_0 := (HB.out.cell (World.block_lt_of_cell? w _ hx258_0)).trans hx258_0
        replace hx258_1 := (HB.out.cell (World.block_lt_of_cell? w _ hx258_1)).trans hx258_1
        replace p258 := eq_true p258
        replace q258 := eq_true q258
        go_wp2_with (first | ((with_reducible refine gate_dst (N := 11) rfl ?_); refine box_event ?hg (N := 11) ?hd (cs := #[.int .i64 0, .int .i64 0]) (t := 49) ?hr ?_; (case hd => rfl); (case hg => rfl); (case hr => first | (go_simp; done) | (go_simp; rfl)); intro gb259 hg w12 hbox hb; have BK259 := aM (hbox); have GW259 := aM ((by rw [hg]; exact (zZ (zH HB.out)) : w.heap.size ≤ gb259)); have GE259 := aM ((by rw [hg]; exact (zZ (zH HB.out)) : w.heap.size ≤ gb259)); replace HB := aM (zT (zH HB.out) hb); have NB257_259 := nL BK257.out hg; have NB259_257 := nR BK257.out hg; replace BK257 := yK BK257.out hb; clear hb hbox hg; have hnb13 := NB259_257.out; have hnc13 := NB257_259.out; have hcz14_0 : w12.cell? ⟨gb259, 0, none⟩ = some (.int .i64 0) := yc BK259.out 0; have hcz14_1 : w12.cell? ⟨gb259, 1, none⟩ = some (.int .i64 0) := yc BK259.out 1; have hfz14_0 := yZ BK259.out 0; have hfz14_1 := yZ BK259.out 1))
        go_ret
        exact ⟨by first | rfl | (simp [errW_none, errW_some] <;> rfl) | (simp [*, errW_none, errW_some] <;> rfl), zH HB.out⟩
       ·rw [if_neg c11] at H
        have c11b0 : decide (a1 ≤ ((rd_T49 l0_1 x57_1).f1)) = false := decide_eq_false c11
        clear c11
        have H' := aM H
        clear H
        have p258 : 0 ≤ (x57_1 : Int) := of_decide_eq_true (by first | (with_reducible assumption) | assumption)
        have q258 : x57_1 < (l0_1.length : Int) := of_decide_eq_true (by first | (with_reducible assumption) | assumption)
        obtain ⟨ad258, e258, hx258_0, hx258_1⟩ := at_T49 HR0_1.out x57_1 p258 q258
        cases e258
        replace hx258_0 := (HB.out.cell (World.block_lt_of_cell? w _ hx258_0)).trans hx258_0
        replace hx258_1 := (HB.out.cell (World.block_lt_of_cell? w _ hx258_1)).trans hx258_1
        replace p258 := eq_true p258
        replace q258 := eq_true q258
        go_wp2_with (first | ((with_reducible refine gate_dst (N := 11) rfl ?_); refine box_event ?hg (N := 11) ?hd (cs := #[.int .i64 0, .int .i64 0]) (t := 49) ?hr ?_; (case hd => rfl); (case hg => rfl); (case hr => first | (go_simp; done) | (go_simp; rfl)); intro gb259 hg w15 hbox hb; have BK259 := aM (hbox); have GW259 := aM ((by rw [hg]; exact (zZ (zH HB.out)) : w.heap.size ≤ gb259)); have GE259 := aM ((by rw [hg]; exact (zZ (zH HB.out)) : w.heap.size ≤ gb259)); replace HB := aM (zT (zH HB.out) hb); have NB257_259 := nL BK257.out hg; have NB259_257 := nR BK257.out hg; replace BK257 := yK BK257.out hb; clear hb hbox hg; have hnb16 := NB259_257.out; have hnc16 := NB257_259.out; have hcz17_0 : w15.cell? ⟨gb259, 0, none⟩ = some (.int .i64 0) := yc BK259.out 0; have hcz17_1 : w15.cell? ⟨gb259, 1, none⟩ = some (.int .i64 0) := yc BK259.out 1; have hfz17_0 := yZ BK259.out 0; have hfz17_1 := yZ BK259.out 1))
        go_roundg k1
        case measure => have := HK1.out; omega
        case rel => exact ⟨(wrap64 (x57_1 + 1)), (by first | rfl | (simp; done) | (simp [*]; done)), H', ⟨by have := HK1.out; omega⟩, ⟨by (with_reducible repeat (first | refine yN ?_ _ | refine yD ?_ | refine yA ?_ _)); refine yF ?_ NB257_259.out _; (with_reducible repeat (first | refine yN ?_ _ | refine yD ?_ | refine yA ?_ _)); refine yF ?_ NB257_259.out _; (with_reducible repeat (first | refine yN ?_ _ | refine yD ?_ | refine yA ?_ _)); exact BK257.out⟩, ⟨zH HB.out⟩⟩
      ·rw [if_neg c10] at H
       exact absurd H (by simp)
     ·rw [if_neg c9] at H
      exact absurd H (by simp)
    ·rw [if_neg c8] at H
     have c8b0 : decide (x57_1 < (l0_1.length : Int)) = false := decide_eq_false c8
     clear c8
     obtain rfl := Option.some.inj H
     go_wp2
     go_ret
     exact ⟨by first | rfl | (simp [errW_none, errW_some] <;> rfl) | (simp [*, errW_none, errW_some] <;> rfl), zH HB.out⟩
 ·rw [if_neg c5] at H
  have c5b0 : (a2 == 1) = false := beq_eq_false_iff_ne.mpr c5
  have c5b1 : (a2 != 1) = true := bne_iff_ne.mpr c5
  by_cases c18 : a2 = 2
  ·rw [if_pos c18] at H
   have c18b0 : (a2 == 2) = true := beq_iff_eq.mpr c18
   have c18b1 : (a2 != 2) = false := bne_eq_false_iff_eq.mpr c18
   clear c18
   have H' := aM H
   clear H
   go_enter Try.func55, Try.ntmps55
   go_wp2_with (first | ((with_reducible refine gate_dst (N := 4) rfl ?_); refine box_event ?hg (N := 4) ?hd (cs := #[.int .i64 a0_0, .slice A0_1 l0_1.length c0_1, .slice A0_2 l0_2.length c0_2]) (t := 24) ?hr ?_; (case hd => rfl); (case hg => rfl); (case hr => first | (go_simp; done) | (go_simp; rfl)); intro gb257 hg w19 hbox hb; have BK257 := aM (hbox); have GW257 := aM ((by rw [hg]; exact (zZ (zH HB.out)) : w.heap.size ≤ gb257)); have GE257 := aM ((by rw [hg]; exact (zZ (zH HB.out)) : w.heap.size ≤ gb257)); replace HB := aM (zT (zH HB.out) hb); clear hb hbox hg; have hcz20_0 : w19.cell? ⟨gb257, 0, none⟩ = some (.int .i64 a0_0) := yc BK257.out 0; have hcz20_1 : w19.cell? ⟨gb257, 1, none⟩ = some (.slice A0_1 l0_1.length c0_1) := yc BK257.out 1; have hcz20_2 : w19.cell? ⟨gb257, 2, none⟩ = some (.slice A0_2 l0_2.length c0_2) := yc BK257.out 2; have hfz20_0 := yZ BK257.out 0; have hfz20_1 := yZ BK257.out 1; have hfz20_2 := yZ BK257.out 2))
   go_loopg [73] k (fun kq v73 w' => ∃ (x73_1 : Int), v73 = .int .i64 x73_1 ∧ Aside0 (spec_l5Pick.l1 kq a1 (-1) l0_2 (l0_2.length : Int) x73_1 = some r) ∧ Aside0 (kq ≤ k) ∧ Aside0 (w'.heap[gb257]? = some (.cells #[.int .i64 a0_0, (.slice A0_1 l0_1.length c0_1), (.slice A0_2 l0_2.length c0_2)] 24 (0, 0))) ∧ Aside0 (Below w.heap.size w w'))
   case atStart => exact ⟨(0), (by first | rfl | (simp; done) | (simp [*]; done)), H', ⟨Nat.le_refl _⟩, ⟨yH BK257.out⟩, ⟨zH HB.out⟩⟩
   case round =>
    clear H'
    (try clear c1); (try clear p2); (try clear q2); (try clear hx2); (try clear c5); (try clear c5b0); (try clear c5b1); (try clear p6); (try clear c8); (try clear c8b0); (try clear c9); (try clear c9b0); (try clear c10); (try clear c10b0); (try clear c11); (try clear c11b0); (try clear c13); (try clear c16); (try clear c18); (try clear c18b0); (try clear c18b1); (try clear hcz14_0); (try clear hcz14_1); (try clear hcz17_0); (try clear hcz17_1); (try clear hcz20_0); (try clear hcz20_1); (try clear hcz20_2); (try clear hcz7_0); (try clear hcz7_1); (try clear hcz7_2); (try clear hfz14_0); (try clear hfz14_1); (try clear hfz17_0); (try clear hfz17_1); (try clear hfz20_0); (try clear hfz20_1); (try clear hfz20_2); (try clear hfz7_0); (try clear hfz7_1); (try clear hfz7_2); (try clear hx258_0); (try clear hx258_1); (try clear p2); (try clear p258); (try clear p6); (try clear q258)
    obtain ⟨x73_1, rfl, HA, HK1, BK257, HB⟩ := hrel
    cases gk with
    | zero => exact absurd HA.out (fun h_ => by change none = some _ at h_; cases h_)
    | succ k1 =>
     have H := HA.out
     clear HA
     simp only [spec_l5Pick.l1] at H
     by_cases c21 : x73_1 < (l0_2.length : Int)
     ·rw [if_pos c21] at H
      have c21b0 : decide (x73_1 < (l0_2.length : Int)) = true := decide_eq_true c21
      clear c21
      by_cases c22 : 0 ≤ x73_1
      ·rw [if_pos c22] at H
       have c22b0 : decide (0 ≤ x73_1) = true := decide_eq_true c22
       clear c22
       by_cases c23 : x73_1 < (l0_2.length : Int)
       ·rw [if_pos c23] at H
        have c23b0 : decide (x73_1 < (l0_2.length : Int)) = true := decide_eq_true c23
        clear c23
        by_cases c24 : ((rd_T49 l0_2 x73_1).f1) ≥ a1
        ·rw [if_pos c24] at H
         have c24b0 : decide (a1 ≤ ((rd_T49 l0_2 x73_1).f1)) = true := decide_eq_true c24
         clear c24
         obtain rfl := Option.some.inj H
         have p260 : 0 ≤ (x73_1 : Int) := of_decide_eq_true (by first | (with_reducible assumption) | assumption)
         have q260 : x73_1 < (l0_2.length : Int) := of_decide_eq_true (by first | (with_reducible assumption) | assumption)
         obtain ⟨ad260, e260, hx260_0, hx260_1⟩ := at_T49 HR0_2.out x73_1 p260 q260
         cases e260
         replace hx260_0 := (HB.out.cell (World.block_lt_of_cell? w _ hx260_0)).trans hx260_0
         replace hx260_1 := (HB.out.cell (World.block_lt_of_cell? w _ hx260_1)).trans hx260_1
         replace p260 := eq_true p260
         replace q260 := eq_true q260
         go_wp2_with (first | ((with_reducible refine gate_dst (N := 13) rfl ?_); refine box_event ?hg (N := 13) ?hd (cs := #[.int .i64 0, .int .i64 0]) (t := 49) ?hr ?_; (case hd => rfl); (case hg => rfl); (case hr => first | (go_simp; done) | (go_simp; rfl)); intro gb261 hg w25 hbox hb; have BK261 := aM (hbox); have GW261 := aM ((by rw [hg]; exact (zZ (zH HB.out)) : w.heap.size ≤ gb261)); have GE261 := aM ((by rw [hg]; exact (zZ (zH HB.out)) : w.heap.size ≤ gb261)); replace HB := aM (zT (zH HB.out) hb); have NB257_261 := nL BK257.out hg; have NB261_257 := nR BK257.out hg; replace BK257 := yK BK257.out hb; clear hb hbox hg; have hnb26 := NB261_257.out; have hnc26 := NB257_261.out; have hcz27_0 : w25.cell? ⟨gb261, 0, none⟩ = some (.int .i64 0) := yc BK261.out 0; have hcz27_1 : w25.cell? ⟨gb261, 1, none⟩ = some (.int .i64 0) := yc BK261.out 1; have hfz27_0 := yZ BK261.out 0; have hfz27_1 := yZ BK261.out 1))
         go_ret
         exact ⟨by first | rfl | (simp [errW_none, errW_some] <;> rfl) | (simp [*, errW_none, errW_some] <;> rfl), zH HB.out⟩
        ·rw [if_neg c24] at H
         have c24b0 : decide (a1 ≤ ((rd_T49 l0_2 x73_1).f1)) = false := decide_eq_false c24
         clear c24
         have H' := aM H
         clear H
         have p260 : 0 ≤ (x73_1 : Int) := of_decide_eq_true (by first | (with_reducible assumption) | assumption)
         have q260 : x73_1 < (l0_2.length : Int) := of_decide_eq_true (by first | (with_reducible assumption) | assumption)
         obtain ⟨ad260, e260, hx260_0, hx260_1⟩ := at_T49 HR0_2.out x73_1 p260 q260
         cases e260
         replace hx260_0 := (HB.out.cell (World.block_lt_of_cell? w _ hx260_0)).trans hx260_0
         replace hx260_1 := (HB.out.cell (World.block_lt_of_cell? w _ hx260_1)).trans hx260_1
         replace p260 := eq_true p260
         replace q260 := eq_true q260
         go_wp2_with (first | ((with_reducible refine gate_dst (N := 13) rfl ?_); refine box_event ?hg (N := 13) ?hd (cs := #[.int .i64 0, .int .i64 0]) (t := 49) ?hr ?_; (case hd => rfl); (case hg => rfl); (case hr => first | (go_simp; done) | (go_simp; rfl)); intro gb261 hg w28 hbox hb; have BK261 := aM (hbox); have GW261 := aM ((by rw [hg]; exact (zZ (zH HB.out)) : w.heap.size ≤ gb261)); have GE261 := aM ((by rw [hg]; exact (zZ (zH HB.out)) : w.heap.size ≤ gb261)); replace HB := aM (zT (zH HB.out) hb); have NB257_261 := nL BK257.out hg; have NB261_257 := nR BK257.out hg; replace BK257 := yK BK257.out hb; clear hb hbox hg; have hnb29 := NB261_257.out; have hnc29 := NB257_261.out; have hcz30_0 : w28.cell? ⟨gb261, 0, none⟩ = some (.int .i64 0) := yc BK261.out 0; have hcz30_1 : w28.cell? ⟨gb261, 1, none⟩ = some (.int .i64 0) := yc BK261.out 1; have hfz30_0 := yZ BK261.out 0; have hfz30_1 := yZ BK261.out 1))
         go_roundg k1
         case measure => have := HK1.out; omega
         case rel => exact ⟨(wrap64 (x73_1 + 1)), (by first | rfl | (simp; done) | (simp [*]; done)), H', ⟨by have := HK1.out; omega⟩, ⟨by (with_reducible repeat (first | refine yN ?_ _ | refine yD ?_ | refine yA ?_ _)); refine yF ?_ NB257_261.out _; (with_reducible repeat (first | refine yN ?_ _ | refine yD ?_ | refine yA ?_ _)); refine yF ?_ NB257_261.out _; (with_reducible repeat (first | refine yN ?_ _ | refine yD ?_ | refine yA ?_ _)); exact BK257.out⟩, ⟨zH HB.out⟩⟩
       ·rw [if_neg c23] at H
        exact absurd H (by simp)
      ·rw [if_neg c22] at H
       exact absurd H (by simp)
     ·rw [if_neg c21] at H
      have c21b0 : decide (x73_1 < (l0_2.length : Int)) = false := decide_eq_false c21
      clear c21
      obtain rfl := Option.some.inj H
      go_wp2
      go_ret
      exact ⟨by first | rfl | (simp [errW_none, errW_some] <;> rfl) | (simp [*, errW_none, errW_some] <;> rfl), zH HB.out⟩
  ·rw [if_neg c18] at H
   have c18b0 : (a2 == 2) = false := beq_eq_false_iff_ne.mpr c18
   have c18b1 : (a2 != 2) = true := bne_iff_ne.mpr c18
   by_cases c31 : a2 = 3
   ·rw [if_pos c31] at H
    have c31b0 : (a2 == 3) = true := beq_iff_eq.mpr c31
    have c31b1 : (a2 != 3) = false := bne_eq_false_iff_eq.mpr c31
    clear c31
    by_cases c32 : (l0_2.length : Int) > 0
    ·rw [if_pos c32] at H
     have c32b0 : decide (0 < (l0_2.length : Int)) = true := decide_eq_true c32
     have c32b1 : decide (0 < l0_2.length) = true := decide_eq_true (by omega)
     clear c32
     obtain ⟨ji33, hji33⟩ : ∃ j_ : Int, (wrap64 ((l0_2.length : Int) - 1)) = j_ := ⟨_, rfl⟩
     replace H : (if 0 ≤ (ji33) then (if (ji33) < (l0_2.length : Int) then (if ((rd_T49 l0_2 (ji33)).f1) ≥ a1 then (some ((rd_T49 l0_2 (ji33)).f0)) else (some (-1))) else (none)) else (none)) = some r := by first | (rw [hji33] at H; exact H) | (simp only [hji33] at H ⊢; exact H)
     have hji33w : (IntKind.i64.wrap ((l0_2.length : Int) - 1)) = ji33 := (i64_w _).trans hji33
     by_cases c34 : 0 ≤ (ji33)
     ·rw [if_pos c34] at H
      have c34b0 : decide (0 ≤ (ji33)) = true := decide_eq_true c34
      clear c34
      by_cases c35 : (ji33) < (l0_2.length : Int)
      ·rw [if_pos c35] at H
       have c35b0 : decide ((ji33) < (l0_2.length : Int)) = true := decide_eq_true c35
       clear c35
       by_cases c36 : ((rd_T49 l0_2 (ji33)).f1) ≥ a1
       ·rw [if_pos c36] at H
        have c36b0 : decide (a1 ≤ ((rd_T49 l0_2 (ji33)).f1)) = true := decide_eq_true c36
        clear c36
        obtain rfl := Option.some.inj H
        go_enter Try.func55, Try.ntmps55
        go_wp2_with (first | ((with_reducible refine gate_dst (N := 4) rfl ?_); refine box_event ?hg (N := 4) ?hd (cs := #[.int .i64 a0_0, .slice A0_1 l0_1.length c0_1, .slice A0_2 l0_2.length c0_2]) (t := 24) ?hr ?_; (case hd => rfl); (case hg => rfl); (case hr => first | (go_simp; done) | (go_simp; rfl)); intro gb257 hg w37 hbox hb; have BK257 := aM (hbox); have GW257 := aM ((by rw [hg]; exact (zZ (zH HB.out)) : w.heap.size ≤ gb257)); have GE257 := aM ((by rw [hg]; exact (zZ (zH HB.out)) : w.heap.size ≤ gb257)); replace HB := aM (zT (zH HB.out) hb); clear hb hbox hg; have hcz38_0 : w37.cell? ⟨gb257, 0, none⟩ = some (.int .i64 a0_0) := yc BK257.out 0; have hcz38_1 : w37.cell? ⟨gb257, 1, none⟩ = some (.slice A0_1 l0_1.length c0_1) := yc BK257.out 1; have hcz38_2 : w37.cell? ⟨gb257, 2, none⟩ = some (.slice A0_2 l0_2.length c0_2) := yc BK257.out 2; have hfz38_0 := yZ BK257.out 0; have hfz38_1 := yZ BK257.out 1; have hfz38_2 := yZ BK257.out 2; have p262 : 0 ≤ ((ji33) : Int) := of_decide_eq_true (by first | (with_reducible assumption) | assumption); have q262 : (ji33) < (l0_2.length : Int) := of_decide_eq_true (by first | (with_reducible assumption) | assumption); obtain ⟨ad262, e262, hx262_0, hx262_1⟩ := at_T49 HR0_2.out (ji33) p262 q262; cases e262; replace hx262_0 := (HB.out.cell (World.block_lt_of_cell? w _ hx262_0)).trans hx262_0; replace hx262_1 := (HB.out.cell (World.block_lt_of_cell? w _ hx262_1)).trans hx262_1; replace p262 := eq_true p262; replace q262 := eq_true q262; have p263 : 0 ≤ ((ji33) : Int) := of_decide_eq_true (by first | (with_reducible assumption) | assumption); have q263 : (ji33) < (l0_2.length : Int) := of_decide_eq_true (by first | (with_reducible assumption) | assumption); obtain ⟨ad263, e263, hx263_0, hx263_1⟩ := at_T49 HR0_2.out (ji33) p263 q263; obtain rfl : ad262 = ad263 := (by injection e263); replace hx263_0 := (HB.out.cell (World.block_lt_of_cell? w _ hx263_0)).trans hx263_0; replace hx263_1 := (HB.out.cell (World.block_lt_of_cell? w _ hx263_1)).trans hx263_1; replace p263 := eq_true p263; replace q263 := eq_true q263))
        go_ret
        exact ⟨by first | rfl | (simp [errW_none, errW_some] <;> rfl) | (simp only [← hji33]; first | rfl | (simp [errW_none, errW_some] <;> rfl)) | (simp [*, errW_none, errW_some] <;> rfl), zH HB.out⟩
       ·rw [if_neg c36] at H
        have c36b0 : decide (a1 ≤ ((rd_T49 l0_2 (ji33)).f1)) = false := decide_eq_false c36
        clear c36
        obtain rfl := Option.some.inj H
        go_enter Try.func55, Try.ntmps55
        go_wp2_with (first | ((with_reducible refine gate_dst (N := 4) rfl ?_); refine box_event ?hg (N := 4) ?hd (cs := #[.int .i64 a0_0, .slice A0_1 l0_1.length c0_1, .slice A0_2 l0_2.length c0_2]) (t := 24) ?hr ?_; (case hd => rfl); (case hg => rfl); (case hr => first | (go_simp; done) | (go_simp; rfl)); intro gb257 hg w39 hbox hb; have BK257 := aM (hbox); have GW257 := aM ((by rw [hg]; exact (zZ (zH HB.out)) : w.heap.size ≤ gb257)); have GE257 := aM ((by rw [hg]; exact (zZ (zH HB.out)) : w.heap.size ≤ gb257)); replace HB := aM (zT (zH HB.out) hb); clear hb hbox hg; have hcz40_0 : w39.cell? ⟨gb257, 0, none⟩ = some (.int .i64 a0_0) := yc BK257.out 0; have hcz40_1 : w39.cell? ⟨gb257, 1, none⟩ = some (.slice A0_1 l0_1.length c0_1) := yc BK257.out 1; have hcz40_2 : w39.cell? ⟨gb257, 2, none⟩ = some (.slice A0_2 l0_2.length c0_2) := yc BK257.out 2; have hfz40_0 := yZ BK257.out 0; have hfz40_1 := yZ BK257.out 1; have hfz40_2 := yZ BK257.out 2; have p262 : 0 ≤ ((ji33) : Int) := of_decide_eq_true (by first | (with_reducible assumption) | assumption); have q262 : (ji33) < (l0_2.length : Int) := of_decide_eq_true (by first | (with_reducible assumption) | assumption); obtain ⟨ad262, e262, hx262_0, hx262_1⟩ := at_T49 HR0_2.out (ji33) p262 q262; cases e262; replace hx262_0 := (HB.out.cell (World.block_lt_of_cell? w _ hx262_0)).trans hx262_0; replace hx262_1 := (HB.out.cell (World.block_lt_of_cell? w _ hx262_1)).trans hx262_1; replace p262 := eq_true p262; replace q262 := eq_true q262))
        go_ret
        exact ⟨by first | rfl | (simp [errW_none, errW_some] <;> rfl) | (simp only [← hji33]; first | rfl | (simp [errW_none, errW_some] <;> rfl)) | (simp [*, errW_none, errW_some] <;> rfl), zH HB.out⟩
      ·rw [if_neg c35] at H
       exact absurd H (by simp)
     ·rw [if_neg c34] at H
      exact absurd H (by simp)
    ·rw [if_neg c32] at H
     have c32b0 : decide (0 < (l0_2.length : Int)) = false := decide_eq_false c32
     have c32b1 : decide (0 < l0_2.length) = false := decide_eq_false (by omega)
     clear c32
     obtain rfl := Option.some.inj H
     go_enter Try.func55, Try.ntmps55
     go_wp2_with (first | ((with_reducible refine gate_dst (N := 4) rfl ?_); refine box_event ?hg (N := 4) ?hd (cs := #[.int .i64 a0_0, .slice A0_1 l0_1.length c0_1, .slice A0_2 l0_2.length c0_2]) (t := 24) ?hr ?_; (case hd => rfl); (case hg => rfl); (case hr => first | (go_simp; done) | (go_simp; rfl)); intro gb257 hg w41 hbox hb; have BK257 := aM (hbox); have GW257 := aM ((by rw [hg]; exact (zZ (zH HB.out)) : w.heap.size ≤ gb257)); have GE257 := aM ((by rw [hg]; exact (zZ (zH HB.out)) : w.heap.size ≤ gb257)); replace HB := aM (zT (zH HB.out) hb); clear hb hbox hg; have hcz42_0 : w41.cell? ⟨gb257, 0, none⟩ = some (.int .i64 a0_0) := yc BK257.out 0; have hcz42_1 : w41.cell? ⟨gb257, 1, none⟩ = some (.slice A0_1 l0_1.length c0_1) := yc BK257.out 1; have hcz42_2 : w41.cell? ⟨gb257, 2, none⟩ = some (.slice A0_2 l0_2.length c0_2) := yc BK257.out 2; have hfz42_0 := yZ BK257.out 0; have hfz42_1 := yZ BK257.out 1; have hfz42_2 := yZ BK257.out 2))
     go_ret
     exact ⟨by first | rfl | (simp [errW_none, errW_some] <;> rfl) | (simp [*, errW_none, errW_some] <;> rfl), zH HB.out⟩
   ·rw [if_neg c31] at H
    have c31b0 : (a2 == 3) = false := beq_eq_false_iff_ne.mpr c31
    have c31b1 : (a2 != 3) = true := bne_iff_ne.mpr c31
    have H' := aM H
    clear H
    go_enter Try.func55, Try.ntmps55
    go_wp2_with (first | ((with_reducible refine gate_dst (N := 4) rfl ?_); refine box_event ?hg (N := 4) ?hd (cs := #[.int .i64 a0_0, .slice A0_1 l0_1.length c0_1, .slice A0_2 l0_2.length c0_2]) (t := 24) ?hr ?_; (case hd => rfl); (case hg => rfl); (case hr => first | (go_simp; done) | (go_simp; rfl)); intro gb257 hg w43 hbox hb; have BK257 := aM (hbox); have GW257 := aM ((by rw [hg]; exact (zZ (zH HB.out)) : w.heap.size ≤ gb257)); have GE257 := aM ((by rw [hg]; exact (zZ (zH HB.out)) : w.heap.size ≤ gb257)); replace HB := aM (zT (zH HB.out) hb); clear hb hbox hg; have hcz44_0 : w43.cell? ⟨gb257, 0, none⟩ = some (.int .i64 a0_0) := yc BK257.out 0; have hcz44_1 : w43.cell? ⟨gb257, 1, none⟩ = some (.slice A0_1 l0_1.length c0_1) := yc BK257.out 1; have hcz44_2 : w43.cell? ⟨gb257, 2, none⟩ = some (.slice A0_2 l0_2.length c0_2) := yc BK257.out 2; have hfz44_0 := yZ BK257.out 0; have hfz44_1 := yZ BK257.out 1; have hfz44_2 := yZ BK257.out 2))
    go_loopg [9, 22] k (fun kq v9 v22 w' => ∃ (x9_1 : Int) (x22_1 : Int), v9 = .int .i64 x9_1 ∧ v22 = .int .i64 x22_1 ∧ Aside0 (spec_l5Pick.l2 kq a1 a3 x9_1 l0_1 (l0_1.length : Int) x22_1 = some r) ∧ Aside0 (kq ≤ k) ∧ Aside0 (w'.heap[gb257]? = some (.cells #[.int .i64 a0_0, (.slice A0_1 l0_1.length c0_1), (.slice A0_2 l0_2.length c0_2)] 24 (0, 0))) ∧ Aside0 (Below w.heap.size w w'))
    case atStart => exact ⟨((-1)), (0), (by first | rfl | (simp; done) | (simp [*]; done)), (by first | rfl | (simp; done) | (simp [*]; done)), H', ⟨Nat.le_refl _⟩, ⟨yH BK257.out⟩, ⟨zH HB.out⟩⟩
    case round =>
     clear H'
     (try clear c1); (try clear c2); (try clear p2); (try clear q2); (try clear hx2); (try clear c3); (try clear c5); (try clear c5b0); (try clear c5b1); (try clear p6); (try clear c8); (try clear c8b0); (try clear c9); (try clear c9b0); (try clear c10); (try clear c10b0); (try clear c11); (try clear c11b0); (try clear c13); (try clear c16); (try clear c18); (try clear c18b0); (try clear c18b1); (try clear c21); (try clear c21b0); (try clear c22); (try clear c22b0); (try clear c23); (try clear c23b0); (try clear c24); (try clear c24b0); (try clear p25); (try clear q25); (try clear hx25); (try clear c26); (try clear p26); (try clear q26); (try clear hx26); (try clear c29); (try clear c31); (try clear c31b0); (try clear c31b1); (try clear c32); (try clear c32b0); (try clear c32b1); (try clear c34); (try clear c34b0); (try clear c35); (try clear c35b0); (try clear c36); (try clear c36b0); (try clear hcz14_0); (try clear hcz14_1); (try clear hcz17_0); (try clear hcz17_1); (try clear hcz20_0); (try clear hcz20_1); (try clear hcz20_2); (try clear hcz27_0); (try clear hcz27_1); (try clear hcz30_0); (try clear hcz30_1); (try clear hcz38_0); (try clear hcz38_1); (try clear hcz38_2); (try clear hcz40_0); (try clear hcz40_1); (try clear hcz40_2); (try clear hcz42_0); (try clear hcz42_1); (try clear hcz42_2); (try clear hcz44_0); (try clear hcz44_1); (try clear hcz44_2); (try clear hcz7_0); (try clear hcz7_1); (try clear hcz7_2); (try clear hfz14_0); (try clear hfz14_1); (try clear hfz17_0); (try clear hfz17_1); (try clear hfz20_0); (try clear hfz20_1); (try clear hfz20_2); (try clear hfz27_0); (try clear hfz27_1); (try clear hfz30_0); (try clear hfz30_1); (try clear hfz38_0); (try clear hfz38_1); (try clear hfz38_2); (try clear hfz40_0); (try clear hfz40_1); (try clear hfz40_2); (try clear hfz42_0); (try clear hfz42_1); (try clear hfz42_2); (try clear hfz44_0); (try clear hfz44_1); (try clear hfz44_2); (try clear hfz7_0); (try clear hfz7_1); (try clear hfz7_2); (try clear hx258_0); (try clear hx258_1); (try clear hx260_0); (try clear hx260_1); (try clear hx262_0); (try clear hx262_1); (try clear hx263_0); (try clear hx263_1); (try clear p2); (try clear p258); (try clear p260); (try clear p262); (try clear p263); (try clear p6); (try clear q2); (try clear q258); (try clear q260); (try clear q262); (try clear q263)
     obtain ⟨x9_1, x22_1, rfl, rfl, HA, HK1, BK257, HB⟩ := hrel
     cases gk with
     | zero => exact absurd HA.out (fun h_ => by change none = some _ at h_; cases h_)
     | succ k1 =>
      have H := HA.out
      clear HA
      simp only [spec_l5Pick.l2] at H
      by_cases c45 : x22_1 < (l0_1.length : Int)
      ·rw [if_pos c45] at H
       have c45b0 : decide (x22_1 < (l0_1.length : Int)) = true := decide_eq_true c45
       clear c45
       by_cases c46 : 0 ≤ x22_1
       ·rw [if_pos c46] at H
        have c46b0 : decide (0 ≤ x22_1) = true := decide_eq_true c46
        clear c46
        by_cases c47 : x22_1 < (l0_1.length : Int)
        ·rw [if_pos c47] at H
         have c47b0 : decide (x22_1 < (l0_1.length : Int)) = true := decide_eq_true c47
         clear c47
         have H' := aM H
         clear H
         have p264 : 0 ≤ (x22_1 : Int) := of_decide_eq_true (by first | (with_reducible assumption) | assumption)
         have q264 : x22_1 < (l0_1.length : Int) := of_decide_eq_true (by first | (with_reducible assumption) | assumption)
         obtain ⟨ad264, e264, hx264_0, hx264_1⟩ := at_T49 HR0_1.out x22_1 p264 q264
         cases e264
         replace hx264_0 := (HB.out.cell (World.block_lt_of_cell? w _ hx264_0)).trans hx264_0
         replace hx264_1 := (HB.out.cell (World.block_lt_of_cell? w _ hx264_1)).trans hx264_1
         replace p264 := eq_true p264
         replace q264 := eq_true q264
         go_wp2_with (first | ((with_reducible refine gate_dst (N := 16) rfl ?_); refine box_event ?hg (N := 16) ?hd (cs := #[.int .i64 0, .int .i64 0]) (t := 49) ?hr ?_; (case hd => rfl); (case hg => rfl); (case hr => first | (go_simp; done) | (go_simp; rfl)); intro gb265 hg w48 hbox hb; have BK265 := aM (hbox); have GW265 := aM ((by rw [hg]; exact (zZ (zH HB.out)) : w.heap.size ≤ gb265)); have GE265 := aM ((by rw [hg]; exact (zZ (zH HB.out)) : w.heap.size ≤ gb265)); replace HB := aM (zT (zH HB.out) hb); have NB257_265 := nL BK257.out hg; have NB265_257 := nR BK257.out hg; replace BK257 := yK BK257.out hb; clear hb hbox hg; have hnb49 := NB265_257.out; have hnc49 := NB257_265.out; have hcz50_0 : w48.cell? ⟨gb265, 0, none⟩ = some (.int .i64 0) := yc BK265.out 0; have hcz50_1 : w48.cell? ⟨gb265, 1, none⟩ = some (.int .i64 0) := yc BK265.out 1; have hfz50_0 := yZ BK265.out 0; have hfz50_1 := yZ BK265.out 1))
         go_loopg [9, 17] k1 (fun kq v9 v17 w' => ∃ (x9_2 : Int) (x17_2 : Int), v9 = .int .i64 x9_2 ∧ v17 = .int .i64 x17_2 ∧ Aside0 (spec_l5Pick.l3 kq a1 a3 x9_2 x17_2 l0_1 (l0_1.length : Int) x22_1 ((rd_T49 l0_1 x22_1).f0) ((rd_T49 l0_1 x22_1).f1) = some r) ∧ Aside0 (kq ≤ k1) ∧ Aside0 (w'.heap[gb257]? = some (.cells #[.int .i64 a0_0, (.slice (some ad264) l0_1.length c0_1), (.slice A0_2 l0_2.length c0_2)] 24 (0, 0))) ∧ Aside0 (w'.heap[gb265]? = some (.cells #[.int .i64 ((rd_T49 l0_1 x22_1).f0), .int .i64 ((rd_T49 l0_1 x22_1).f1)] 49 (0, 0))) ∧ Aside0 (Below w.heap.size w w'))
         case atStart => exact ⟨(x9_1), ((rd_T49 l0_1 x22_1).f0), (by first | rfl | (simp; done) | (simp [*]; done)), (by first | rfl | (simp; done) | (simp [*]; done)), H', ⟨Nat.le_refl _⟩, ⟨by (with_reducible repeat (first | refine yN ?_ _ | refine yD ?_ | refine yA ?_ _)); refine yF ?_ NB257_265.out _; (with_reducible repeat (first | refine yN ?_ _ | refine yD ?_ | refine yA ?_ _)); refine yF ?_ NB257_265.out _; (with_reducible repeat (first | refine yN ?_ _ | refine yD ?_ | refine yA ?_ _)); exact BK257.out⟩, ⟨by (with_reducible repeat (first | refine yN ?_ _ | refine yD ?_ | refine yA ?_ _)); refine yP (cs := #[.int .i64 ((rd_T49 l0_1 x22_1).f0), .int .i64 0]) ?_ 1 _ rfl; (with_reducible repeat (first | refine yN ?_ _ | refine yD ?_ | refine yA ?_ _)); refine yP (cs := #[.int .i64 0, .int .i64 0]) ?_ 0 _ rfl; (with_reducible repeat (first | refine yN ?_ _ | refine yD ?_ | refine yA ?_ _)); exact BK265.out⟩, ⟨zH HB.out⟩⟩
         case round =>
          clear H'
          (try clear c1); (try clear c2); (try clear p2); (try clear q2); (try clear hx2); (try clear c3); (try clear c4); (try clear c5); (try clear c5b0); (try clear c5b1); (try clear p6); (try clear c8); (try clear c8b0); (try clear c9); (try clear c9b0); (try clear c10); (try clear c10b0); (try clear c11); (try clear c11b0); (try clear c13); (try clear c16); (try clear c18); (try clear c18b0); (try clear c18b1); (try clear c21); (try clear c21b0); (try clear c22); (try clear c22b0); (try clear c23); (try clear c23b0); (try clear c24); (try clear c24b0); (try clear p25); (try clear q25); (try clear hx25); (try clear c26); (try clear p26); (try clear q26); (try clear hx26); (try clear c29); (try clear c31); (try clear c31b0); (try clear c31b1); (try clear c32); (try clear c32b0); (try clear c32b1); (try clear c34); (try clear c34b0); (try clear c35); (try clear c35b0); (try clear c36); (try clear c36b0); (try clear c45); (try clear c45b0); (try clear c46); (try clear c46b0); (try clear c47); (try clear c47b0); (try clear c49); (try clear hcz14_0); (try clear hcz14_1); (try clear hcz17_0); (try clear hcz17_1); (try clear hcz20_0); (try clear hcz20_1); (try clear hcz20_2); (try clear hcz27_0); (try clear hcz27_1); (try clear hcz30_0); (try clear hcz30_1); (try clear hcz38_0); (try clear hcz38_1); (try clear hcz38_2); (try clear hcz40_0); (try clear hcz40_1); (try clear hcz40_2); (try clear hcz42_0); (try clear hcz42_1); (try clear hcz42_2); (try clear hcz44_0); (try clear hcz44_1); (try clear hcz44_2); (try clear hcz50_0); (try clear hcz50_1); (try clear hcz7_0); (try clear hcz7_1); (try clear hcz7_2); (try clear hfz14_0); (try clear hfz14_1); (try clear hfz17_0); (try clear hfz17_1); (try clear hfz20_0); (try clear hfz20_1); (try clear hfz20_2); (try clear hfz27_0); (try clear hfz27_1); (try clear hfz30_0); (try clear hfz30_1); (try clear hfz38_0); (try clear hfz38_1); (try clear hfz38_2); (try clear hfz40_0); (try clear hfz40_1); (try clear hfz40_2); (try clear hfz42_0); (try clear hfz42_1); (try clear hfz42_2); (try clear hfz44_0); (try clear hfz44_1); (try clear hfz44_2); (try clear hfz50_0); (try clear hfz50_1); (try clear hfz7_0); (try clear hfz7_1); (try clear hfz7_2); (try clear hx258_0); (try clear hx258_1); (try clear hx260_0); (try clear hx260_1); (try clear hx262_0); (try clear hx262_1); (try clear hx263_0); (try clear hx263_1); (try clear hx264_0); (try clear hx264_1); (try clear p2); (try clear p25); (try clear p258); (try clear p26); (try clear p260); (try clear p262); (try clear p263); (try clear p264); (try clear p6); (try clear q2); (try clear q25); (try clear q258); (try clear q26); (try clear q260); (try clear q262); (try clear q263); (try clear q264)
          obtain ⟨x9_2, x17_2, rfl, rfl, HA, HK2, BK257, BK265, HB⟩ := hrel
          cases gk with
          | zero => exact absurd HA.out (fun h_ => by change none = some _ at h_; cases h_)
          | succ k2 =>
           have H := HA.out
           clear HA
           simp only [spec_l5Pick.l3] at H
           by_cases c51 : (wrap64 (x17_2 + a1)) ≤ (wrap64 (((rd_T49 l0_1 x22_1).f0) + ((rd_T49 l0_1 x22_1).f1)))
           ·rw [if_pos c51] at H
            have c51b0 : decide ((wrap64 (x17_2 + a1)) ≤ (wrap64 (((rd_T49 l0_1 x22_1).f0) + ((rd_T49 l0_1 x22_1).f1)))) = true := decide_eq_true c51
            clear c51
            by_cases c52 : x9_2 < 0
            ·rw [if_pos c52] at H
             have c52b0 : decide (x9_2 < 0) = true := decide_eq_true c52
             clear c52
             have H' := aM H
             clear H
             have hnb53 := NB265_257.out
             have hnc53 := NB257_265.out
             have hcz54_0 : wr.cell? ⟨gb265, 0, none⟩ = some (.int .i64 ((rd_T49 l0_1 x22_1).f0)) := yc BK265.out 0
             have hcz54_1 : wr.cell? ⟨gb265, 1, none⟩ = some (.int .i64 ((rd_T49 l0_1 x22_1).f1)) := yc BK265.out 1
             have hfz54_0 := yZ BK265.out 0
             have hfz54_1 := yZ BK265.out 1
             go_wp2
             go_roundg k2
             case measure => have := HK1.out; have := HK2.out; omega
             case rel => exact ⟨(x17_2), (wrap64 (x17_2 + 1)), (by first | rfl | (simp; done) | (simp [*]; done)), (by first | rfl | (simp; done) | (simp [*]; done)), H', ⟨by have := HK1.out; have := HK2.out; omega⟩, ⟨yH BK257.out⟩, ⟨yH BK265.out⟩, ⟨zH HB.out⟩⟩
            ·rw [if_neg c52] at H
             have c52b0 : decide (x9_2 < 0) = false := decide_eq_false c52
             clear c52
             replace H := Option.bind_eq_some_iff.mp H
             obtain ⟨t266, A550, H⟩ := H
             replace H : ((spec_l5Gap.f x9_2 a3).bind fun t267 => (if t266 < t267 then (spec_l5Pick.l3 k2 a1 a3 x17_2 (wrap64 (x17_2 + 1)) l0_1 (l0_1.length : Int) x22_1 ((rd_T49 l0_1 x22_1).f0) ((rd_T49 l0_1 x22_1).f1)) else (spec_l5Pick.l3 k2 a1 a3 x9_2 (wrap64 (x17_2 + 1)) l0_1 (l0_1.length : Int) x22_1 ((rd_T49 l0_1 x22_1).f0) ((rd_T49 l0_1 x22_1).f1)))) = some r := H
             have A55 := aM A550
             clear A550
             replace H := Option.bind_eq_some_iff.mp H
             obtain ⟨t267, A560, H⟩ := H
             replace H : (if t266 < t267 then (spec_l5Pick.l3 k2 a1 a3 x17_2 (wrap64 (x17_2 + 1)) l0_1 (l0_1.length : Int) x22_1 ((rd_T49 l0_1 x22_1).f0) ((rd_T49 l0_1 x22_1).f1)) else (spec_l5Pick.l3 k2 a1 a3 x9_2 (wrap64 (x17_2 + 1)) l0_1 (l0_1.length : Int) x22_1 ((rd_T49 l0_1 x22_1).f0) ((rd_T49 l0_1 x22_1).f1))) = some r := H
             have A56 := aM A560
             clear A560
             by_cases c57 : t266 < t267
             ·rw [if_pos c57] at H
              have c57b0 : decide (t266 < t267) = true := decide_eq_true c57
              clear c57
              have H' := aM H
              clear H
              have hnb58 := NB265_257.out
              have hnc58 := NB257_265.out
              have hcz59_0 : wr.cell? ⟨gb265, 0, none⟩ = some (.int .i64 ((rd_T49 l0_1 x22_1).f0)) := yc BK265.out 0
              have hcz59_1 : wr.cell? ⟨gb265, 1, none⟩ = some (.int .i64 ((rd_T49 l0_1 x22_1).f1)) := yc BK265.out 1
              have hfz59_0 := yZ BK265.out 0
              have hfz59_1 := yZ BK265.out 1
              go_wp2_with (first | (go_at_call 62; (with_reducible refine (spec_l5Gap.calls x17_2 a3 t266 _ A55.out).mono ?_); rintro e w' ⟨rfl, ⟨nd, rfl⟩⟩) | (go_at_call 62; (with_reducible refine (spec_l5Gap.calls x9_2 a3 t267 _ A56.out).mono ?_); rintro e w' ⟨rfl, ⟨nd, rfl⟩⟩))
              go_roundg k2
              case measure => have := HK1.out; have := HK2.out; omega
              case rel => exact ⟨(x17_2), (wrap64 (x17_2 + 1)), (by first | rfl | (simp; done) | (simp [*]; done)), (by first | rfl | (simp; done) | (simp [*]; done)), H', ⟨by have := HK1.out; have := HK2.out; omega⟩, ⟨yH BK257.out⟩, ⟨yH BK265.out⟩, ⟨zH HB.out⟩⟩
             ·rw [if_neg c57] at H
              have c57b0 : decide (t266 < t267) = false := decide_eq_false c57
              clear c57
              have H' := aM H
              clear H
              have hnb60 := NB265_257.out
              have hnc60 := NB257_265.out
              have hcz61_0 : wr.cell? ⟨gb265, 0, none⟩ = some (.int .i64 ((rd_T49 l0_1 x22_1).f0)) := yc BK265.out 0
              have hcz61_1 : wr.cell? ⟨gb265, 1, none⟩ = some (.int .i64 ((rd_T49 l0_1 x22_1).f1)) := yc BK265.out 1
              have hfz61_0 := yZ BK265.out 0
              have hfz61_1 := yZ BK265.out 1
              go_wp2_with (first | (go_at_call 62; (with_reducible refine (spec_l5Gap.calls x17_2 a3 t266 _ A55.out).mono ?_); rintro e w' ⟨rfl, ⟨nd, rfl⟩⟩) | (go_at_call 62; (with_reducible refine (spec_l5Gap.calls x9_2 a3 t267 _ A56.out).mono ?_); rintro e w' ⟨rfl, ⟨nd, rfl⟩⟩))
              go_roundg k2
              case measure => have := HK1.out; have := HK2.out; omega
              case rel => exact ⟨(x9_2), (wrap64 (x17_2 + 1)), (by first | rfl | (simp; done) | (simp [*]; done)), (by first | rfl | (simp; done) | (simp [*]; done)), H', ⟨by have := HK1.out; have := HK2.out; omega⟩, ⟨yH BK257.out⟩, ⟨yH BK265.out⟩, ⟨zH HB.out⟩⟩
           ·rw [if_neg c51] at H
            have c51b0 : decide ((wrap64 (x17_2 + a1)) ≤ (wrap64 (((rd_T49 l0_1 x22_1).f0) + ((rd_T49 l0_1 x22_1).f1)))) = false := decide_eq_false c51
            clear c51
            have H' := aM H
            clear H
            have hnb62 := NB265_257.out
            have hnc62 := NB257_265.out
            have hcz63_0 : wr.cell? ⟨gb265, 0, none⟩ = some (.int .i64 ((rd_T49 l0_1 x22_1).f0)) := yc BK265.out 0
            have hcz63_1 : wr.cell? ⟨gb265, 1, none⟩ = some (.int .i64 ((rd_T49 l0_1 x22_1).f1)) := yc BK265.out 1
            have hfz63_0 := yZ BK265.out 0
            have hfz63_1 := yZ BK265.out 1
            go_wp2
            go_roundg k2
            case measure => have := HK1.out; have := HK2.out; omega
            case rel => exact ⟨(x9_2), (wrap64 (x22_1 + 1)), (by first | rfl | (simp; done) | (simp [*]; done)), (by first | rfl | (simp; done) | (simp [*]; done)), H', ⟨by have := HK1.out; have := HK2.out; omega⟩, ⟨yH BK257.out⟩, ⟨zH HB.out⟩⟩
        ·rw [if_neg c47] at H
         exact absurd H (by simp)
       ·rw [if_neg c46] at H
        exact absurd H (by simp)
      ·rw [if_neg c45] at H
       have c45b0 : decide (x22_1 < (l0_1.length : Int)) = false := decide_eq_false c45
       clear c45
       obtain rfl := Option.some.inj H
       go_wp2
       go_ret
       exact ⟨by first | rfl | (simp [errW_none, errW_some] <;> rfl) | (simp [*, errW_none, errW_some] <;> rfl), zH HB.out⟩

end Go.Proofs.Ytfhfaeeokibhaaa.PFnExactTakeRoom
