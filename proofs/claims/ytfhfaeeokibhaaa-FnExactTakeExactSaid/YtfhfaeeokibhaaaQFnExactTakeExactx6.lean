/- The walks of FnExactTakeExact: Go's calls come to what the Lean functions beside them say; no condition. -/
import Derived.Test.YtfhfaeeokibhaaaQFnExactTakeExactx0
import Derived.Test.YtfhfaeeokibhaaaQFnExactTakeExactx5
namespace Go.Proofs.Ytfhfaeeokibhaaa.PFnExactTakeExact
open Go.RowKit Go.Proofs.YtfhfaeeokibhaaaW.PrintWords Go.Proofs.YtfhfaeeokibhaaaW.PrintLast Go.Proofs.YtfhfaeeokibhaaaW.PrintMore
attribute [local go_sem] max2_int min2_int max_two min_two max_three min_three max_four min_four   -- for this text's walks alone
set_option linter.unusedVariables false
set_option linter.unusedSimpArgs false
set_option maxRecDepth 100000

/-! ### spec_TakeExact: function 32 -/
def spec_TakeExact.j0 : Nat → Bool → Int → List (S49) → List (S49) → Int → Int → Option (Int × (List (S49)) × (List (S49)) × Bool)
 | 0, _, _, _, _, _, _ => none
 | k + 1, x17, x260000, x260001, x260002, x261000, x261001 => if x17 = true then (some (0, ([] : List (S49)), ([] : List (S49)), false)) else ((spec_l5Within.f k x260001 x261000 x261001).bind fun t264 => (if t264 < 0 then (some (0, ([] : List (S49)), ([] : List (S49)), false)) else ((spec_l5Cut.f x260001 t264 x261000 x261001).bind fun t265 => ((spec_l5Of.f k x260000 t265).bind fun bt268 => ((spec_GoodFree.f k bt268.1 bt268.2.1 bt268.2.2).bind fun t276 => (if t276 = true then (some (bt268.1, bt268.2.1, bt268.2.2, true)) else (some (0, ([] : List (S49)), ([] : List (S49)), false))))))))
def spec_TakeExact.f (k : Nat) (a0_0 : Int) (l0_1 : List (S49)) (l0_2 : List (S49)) (a1_0 : Int) (a1_1 : Int) : Option (Int × (List (S49)) × (List (S49)) × Bool) := (spec_GoodFree.f k a0_0 l0_1 l0_2).bind fun t262 => (if t262 = true then ((spec_l5Extent.f a1_0 a1_1 a0_0).bind fun t263 => (spec_TakeExact.j0 k (!t263) a0_0 l0_1 l0_2 a1_0 a1_1)) else (spec_TakeExact.j0 k true a0_0 l0_1 l0_2 a1_0 a1_1))
theorem spec_TakeExact.mono_l : ∀ k, (∀ y0 y1 y2 y3 y4 y5, LeO (spec_TakeExact.j0 k y0 y1 y2 y3 y4 y5) (spec_TakeExact.j0 (k + 1) y0 y1 y2 y3 y4 y5))
 | 0 => fun _ _ _ _ _ _ r h => by change none = some r at h; cases h
 | k + 1 => by
  have ih0 := spec_TakeExact.mono_l k
  ·intro y0 y1 y2 y3 y4 y5
   unfold spec_TakeExact.j0
   repeat' first
   | (with_reducible exact ih0 _ _ _ _ _ _)
   | (with_reducible exact spec_GoodFree.mono _ _ _ _)
   | (with_reducible exact spec_l5Of.mono _ _ _)
   | (with_reducible exact spec_l5Within.mono _ _ _ _)
   | (with_reducible exact LeO.refl _)
   | (with_reducible exact LeO.none _)
   | (with_reducible refine LeO.ite ?_ ?_)
   | (with_reducible refine LeO.bind ?_ (fun _ => ?_))
   | exact ih0 _ _ _ _ _ _
   | exact spec_GoodFree.mono _ _ _ _
   | exact spec_l5Of.mono _ _ _
   | exact spec_l5Within.mono _ _ _ _
   | exact LeO.none _
   | refine LeO.ite ?_ ?_
   | refine LeO.bind ?_ (fun _ => ?_)
theorem spec_TakeExact.mono : ∀ a0 a1 a2 a3 a4 k, LeO (spec_TakeExact.f k a0 a1 a2 a3 a4) (spec_TakeExact.f (k + 1) a0 a1 a2 a3 a4) := by
 intro a0 a1 a2 a3 a4 k
 have ih0 := spec_TakeExact.mono_l k
 unfold spec_TakeExact.f
 repeat' first
   | (with_reducible exact ih0 _ _ _ _ _ _)
   | (with_reducible exact spec_GoodFree.mono _ _ _ _)
   | (with_reducible exact spec_l5Of.mono _ _ _)
   | (with_reducible exact spec_l5Within.mono _ _ _ _)
   | (with_reducible exact LeO.refl _)
   | (with_reducible exact LeO.none _)
   | (with_reducible refine LeO.ite ?_ ?_)
   | (with_reducible refine LeO.bind ?_ (fun _ => ?_))
   | exact ih0 _ _ _ _ _ _
   | exact spec_GoodFree.mono _ _ _ _
   | exact spec_l5Of.mono _ _ _
   | exact spec_l5Within.mono _ _ _ _
   | exact LeO.none _
   | refine LeO.ite ?_ ?_
   | refine LeO.bind ?_ (fun _ => ?_)
def spec_TakeExact.T6 : Bool × List (List Nat × List Nat) := (true, [([], []), ([0], [0]), ([], []), ([2], [2]), ([], []), ([], []), ([3, 4, 5], [3, 4, 5]), ([1, 6, 6], [1, 6]), ([], []), ([8, 7, 7, 0, 1, 2, 3, 4, 5, 6, 7, 8], [7, 8])])
def spec_TakeExact.B6 : List Nat := [0, 1, 0, 4, 0, 0, 60, 127, 0, 511]
theorem spec_TakeExact.tab6 : rtab .any (opsOf Try.f32 6) = spec_TakeExact.T6 := by kernel_rfl
theorem spec_TakeExact.bits6 : waitsOk spec_TakeExact.T6.2 spec_TakeExact.B6 = true := by kernel_rfl
set_option maxHeartbeats 8000000 in
set_option maxRecDepth 100000 in
theorem spec_TakeExact.calls (k : Nat) (a0_0 : Int) (A0_1 : Option Addr) (c0_1 : Nat) (l0_1 : List (S49)) (A0_2 : Option Addr) (c0_2 : Nat) (l0_2 : List (S49)) (a1_0 : Int) (a1_1 : Int) (r1 : Int) (r2 : List (S49)) (r3 : List (S49)) (r4 : Bool) (w : World) (hr0_1 : Kd.C k49 w A0_1 l0_1.length l0_1) (hc0_1 : l0_1.length ≤ c0_1) (hr0_2 : Kd.C k49 w A0_2 l0_2.length l0_2) (hc0_2 : l0_2.length ≤ c0_2) (h : spec_TakeExact.f k a0_0 l0_1 l0_2 a1_0 a1_1 = some (r1, r2, r3, r4)) :
  Calls Try.prog 32 #[.agg #[.int .i64 a0_0, .slice A0_1 l0_1.length c0_1, .slice A0_2 l0_2.length c0_2], .agg #[.int .i64 a1_0, .int .i64 a1_1]] w fun e w' => ∃ v1_ v2_ : Value, e = .returned (.tuple #[.agg #[.int .i64 r1, v1_, v2_], .bool r4]) ∧ Kd.R k49 49 w' w.heap.size (fun k_ => some k_ ≠ (v2_ : Value).ownBlock) v1_ r2 ∧ Kd.R k49 49 w' w.heap.size (fun k_ => some k_ ≠ (v1_ : Value).ownBlock) v2_ r3 ∧ Below w.heap.size w w' := by
 have hu24 := Try.underlying24
 have hu49 := Try.underlying49
 have HR0_1 := aM hr0_1
 have HC0_1 := aM hc0_1
 clear hr0_1 hc0_1
 have HR0_2 := aM hr0_2
 have HC0_2 := aM hc0_2
 clear hr0_2 hc0_2
 have HB := aM (Below.refl w.heap.size w)
 have H : ((spec_GoodFree.f k a0_0 l0_1 l0_2).bind fun t262 => (if t262 = true then ((spec_l5Extent.f a1_0 a1_1 a0_0).bind fun t263 => (spec_TakeExact.j0 k (!t263) a0_0 l0_1 l0_2 a1_0 a1_1)) else (spec_TakeExact.j0 k true a0_0 l0_1 l0_2 a1_0 a1_1))) = some (r1, r2, r3, r4) := h
 clear h
 have HC3 := aM H
 clear H
 go_enter Try.func32, Try.ntmps32
 go_upto_region 1 with (first | ((with_reducible refine gate_dst (N := 2) rfl ?_); refine box_event ?hg (N := 2) ?hd (cs := #[.int .i64 a0_0, .slice A0_1 l0_1.length c0_1, .slice A0_2 l0_2.length c0_2]) (t := 24) ?hr ?_; (case hd => rfl); (case hg => rfl); (case hr => first | (go_simp; done) | (go_simp; rfl)); intro gb259 hg w4 hbox hb; have BK259 := aM (hbox); have GW259 := aM ((by rw [hg]; exact (zZ (zH HB.out)) : w.heap.size ≤ gb259)); have GE259 := aM ((by rw [hg]; exact (zZ (zH HB.out)) : w.heap.size ≤ gb259)); replace HB := aM (zT (zH HB.out) hb); clear hb hbox hg) | ((with_reducible refine gate_dst (N := 3) rfl ?_); refine box_event ?hg (N := 3) ?hd (cs := #[.int .i64 a1_0, .int .i64 a1_1]) (t := 49) ?hr ?_; (case hd => rfl); (case hg => rfl); (case hr => first | (go_simp; done) | (go_simp; rfl)); intro gb260 hg w5 hbox hb; have BK260 := aM (hbox); have GW260 := aM ((by rw [hg]; exact (zZ (zH HB.out)) : w.heap.size ≤ gb260)); have GE260 := aM ((by rw [hg]; exact (zZ (zH HB.out)) : w.heap.size ≤ gb260)); replace HB := aM (zT (zH HB.out) hb); have NB259_260 := nL BK259.out hg; have NB260_259 := nR BK259.out hg; replace BK259 := yK BK259.out hb; clear hb hbox hg) | ((with_reducible refine gate_dst (N := 4) rfl ?_); refine box_event ?hg (N := 4) ?hd (cs := #[.int .i64 0, .slice none 0 0, .slice none 0 0]) (t := 24) ?hr ?_; (case hd => rfl); (case hg => rfl); (case hr => first | (go_simp; done) | (go_simp; rfl)); intro gb261 hg w6 hbox hb; have BK261 := aM (hbox); have GW261 := aM ((by rw [hg]; exact (zZ (zH HB.out)) : w.heap.size ≤ gb261)); have GE261 := aM ((by rw [hg]; exact (zZ (zH HB.out)) : w.heap.size ≤ gb261)); replace HB := aM (zT (zH HB.out) hb); have NB259_261 := nL BK259.out hg; have NB261_259 := nR BK259.out hg; replace BK259 := yK BK259.out hb; have NB260_261 := nL BK260.out hg; have NB261_260 := nR BK260.out hg; replace BK260 := yK BK260.out hb; clear hb hbox hg))
 (try simp only [Act.put, qA, qB, qC])
 go_cut [17] (fun v17 wc => ∃ (kq : Nat) (x17_2 : Bool), v17 = .bool x17_2 ∧ Aside0 (spec_TakeExact.j0 kq x17_2 a0_0 l0_1 l0_2 a1_0 a1_1 = some (r1, r2, r3, r4)) ∧ Aside0 (kq ≤ k) ∧ Aside0 (wc.heap[gb259]? = some (.cells #[.int .i64 a0_0, (.slice A0_1 l0_1.length c0_1), (.slice A0_2 l0_2.length c0_2)] 24 (0, 0))) ∧ Aside0 (wc.heap[gb260]? = some (.cells #[.int .i64 a1_0, .int .i64 a1_1] 49 (0, 0))) ∧ Aside0 (wc.heap[gb261]? = some (.cells #[.int .i64 0, (.slice none 0 0), (.slice none 0 0)] 24 (0, 0))) ∧ Aside0 (Below w.heap.size w wc))
 case first =>
  have H := HC3.out
  clear HC3
  replace H := Option.bind_eq_some_iff.mp H
  obtain ⟨t262, A70, H⟩ := H
  replace H : (if t262 = true then ((spec_l5Extent.f a1_0 a1_1 a0_0).bind fun t263 => (spec_TakeExact.j0 k (!t263) a0_0 l0_1 l0_2 a1_0 a1_1)) else (spec_TakeExact.j0 k true a0_0 l0_1 l0_2 a1_0 a1_1)) = some (r1, r2, r3, r4) := H
  have A7 := aM A70
  clear A70
  by_cases c8 : t262 = true
  ·subst c8
   have H1 : ((spec_l5Extent.f a1_0 a1_1 a0_0).bind fun t263 => (spec_TakeExact.j0 k (!t263) a0_0 l0_1 l0_2 a1_0 a1_1)) = some (r1, r2, r3, r4) := by rw [if_pos rfl] at H; exact H
   clear H
   have H := H1
   clear H1
   replace H := Option.bind_eq_some_iff.mp H
   obtain ⟨t263, A90, H⟩ := H
   replace H : (spec_TakeExact.j0 k (!t263) a0_0 l0_1 l0_2 a1_0 a1_1) = some (r1, r2, r3, r4) := H
   have A9 := aM A90
   clear A90
   have H' := aM H
   clear H
   have hnb10 := NB259_260.out
   have hnc10 := NB260_259.out
   have hnb11 := NB259_261.out
   have hnc11 := NB261_259.out
   have hcz12_0 : w6.cell? ⟨gb259, 0, none⟩ = some (.int .i64 a0_0) := yc BK259.out 0
   have hcz12_1 : w6.cell? ⟨gb259, 1, none⟩ = some (.slice A0_1 l0_1.length c0_1) := yc BK259.out 1
   have hcz12_2 : w6.cell? ⟨gb259, 2, none⟩ = some (.slice A0_2 l0_2.length c0_2) := yc BK259.out 2
   have hfz12_0 := yZ BK259.out 0
   have hfz12_1 := yZ BK259.out 1
   have hfz12_2 := yZ BK259.out 2
   go_wp2_with (first | ((with_reducible refine gate_callee (f := 17) rfl ?_); refine goesL_ (some 9) rfl rfl Try.func17 (by kernel_rfl) rfl #[.agg #[.int .i64 a0_0, .slice A0_1 l0_1.length c0_1, .slice A0_2 l0_2.length c0_2]] rfl (by (try simp only [List.map_toArray, List.map_cons, List.map_nil]); first | done | rfl | (simp only [List.length_drop, List.length_take]; rfl)) ?_; (with_reducible refine (spec_GoodFree.calls k a0_0 _ _ l0_1 _ _ l0_2 true _ ?side1 ?side2 ?side3 ?side4 A7.out).mono ?_); (case side1 => exact cK HR0_1.out HB.out); (case side2 => exact HC0_1.out); (case side3 => exact cK HR0_2.out HB.out); (case side4 => exact HC0_2.out); rintro e w13 ⟨rfl, hb⟩; refine ⟨_, rfl, ?_⟩; replace BK259 := yK BK259.out hb; replace BK260 := yK BK260.out hb; replace BK261 := yK BK261.out hb; replace HB := aM (zT (zH HB.out) hb); (try clear hb); have hnb14 := NB260_261.out; have hnc14 := NB261_260.out; have hcz15_0 : w13.cell? ⟨gb260, 0, none⟩ = some (.int .i64 a1_0) := yc BK260.out 0; have hcz15_1 : w13.cell? ⟨gb260, 1, none⟩ = some (.int .i64 a1_1) := yc BK260.out 1; have hfz15_0 := yZ BK260.out 0; have hfz15_1 := yZ BK260.out 1; have hcz16_0 : w13.cell? ⟨gb259, 0, none⟩ = some (.int .i64 a0_0) := yc BK259.out 0; have hcz16_1 : w13.cell? ⟨gb259, 1, none⟩ = some (.slice A0_1 l0_1.length c0_1) := yc BK259.out 1; have hcz16_2 : w13.cell? ⟨gb259, 2, none⟩ = some (.slice A0_2 l0_2.length c0_2) := yc BK259.out 2; have hfz16_0 := yZ BK259.out 0; have hfz16_1 := yZ BK259.out 1; have hfz16_2 := yZ BK259.out 2) | (go_at_call 52; (with_reducible refine (spec_l5Extent.calls a1_0 a1_1 a0_0 t263 _ A9.out).mono ?_); rintro e w17 ⟨rfl, hb⟩; replace BK259 := yK BK259.out hb; replace BK260 := yK BK260.out hb; replace BK261 := yK BK261.out hb; replace HB := aM (zT (zH HB.out) hb); (try clear hb)))
   go_meet
   case rel => exact ⟨_, (!t263), (by first | rfl | (simp; done) | (simp [*]; done)), H', ⟨by first | omega | exact Nat.le_refl _⟩, ⟨yH BK259.out⟩, ⟨yH BK260.out⟩, ⟨yH BK261.out⟩, ⟨zH HB.out⟩⟩
  ·replace c8 := Bool.eq_false_iff.mpr c8
   subst c8
   have H1 : (spec_TakeExact.j0 k true a0_0 l0_1 l0_2 a1_0 a1_1) = some (r1, r2, r3, r4) := by rw [if_neg (show ¬ (false = true) by decide)] at H; exact H
   clear H
   have H := H1
   clear H1
   have H' := aM H
   clear H
   have hnb18 := NB259_260.out
   have hnc18 := NB260_259.out
   have hnb19 := NB259_261.out
   have hnc19 := NB261_259.out
   have hcz20_0 : w6.cell? ⟨gb259, 0, none⟩ = some (.int .i64 a0_0) := yc BK259.out 0
   have hcz20_1 : w6.cell? ⟨gb259, 1, none⟩ = some (.slice A0_1 l0_1.length c0_1) := yc BK259.out 1
   have hcz20_2 : w6.cell? ⟨gb259, 2, none⟩ = some (.slice A0_2 l0_2.length c0_2) := yc BK259.out 2
   have hfz20_0 := yZ BK259.out 0
   have hfz20_1 := yZ BK259.out 1
   have hfz20_2 := yZ BK259.out 2
   go_wp2_with (first | ((with_reducible refine gate_callee (f := 17) rfl ?_); refine goesL_ (some 9) rfl rfl Try.func17 (by kernel_rfl) rfl #[.agg #[.int .i64 a0_0, .slice A0_1 l0_1.length c0_1, .slice A0_2 l0_2.length c0_2]] rfl (by (try simp only [List.map_toArray, List.map_cons, List.map_nil]); first | done | rfl | (simp only [List.length_drop, List.length_take]; rfl)) ?_; (with_reducible refine (spec_GoodFree.calls k a0_0 _ _ l0_1 _ _ l0_2 false _ ?side1 ?side2 ?side3 ?side4 A7.out).mono ?_); (case side1 => exact cK HR0_1.out HB.out); (case side2 => exact HC0_1.out); (case side3 => exact cK HR0_2.out HB.out); (case side4 => exact HC0_2.out); rintro e w21 ⟨rfl, hb⟩; refine ⟨_, rfl, ?_⟩; replace BK259 := yK BK259.out hb; replace BK260 := yK BK260.out hb; replace BK261 := yK BK261.out hb; replace HB := aM (zT (zH HB.out) hb); (try clear hb)))
   go_meet
   case rel => exact ⟨_, (true), (by first | rfl | (simp; done) | (simp [*]; done)), H', ⟨by first | omega | exact Nat.le_refl _⟩, ⟨yH BK259.out⟩, ⟨yH BK260.out⟩, ⟨yH BK261.out⟩, ⟨zH HB.out⟩⟩
 case rest =>
  clear HC3
  (try clear c1); (try clear p2); (try clear c3); (try clear c8); (try clear c10); (try clear c11); (try clear c14); (try clear c17); (try clear c18); (try clear c19); (try clear hcz12_0); (try clear hcz12_1); (try clear hcz12_2); (try clear hcz15_0); (try clear hcz15_1); (try clear hcz16_0); (try clear hcz16_1); (try clear hcz16_2); (try clear hcz20_0); (try clear hcz20_1); (try clear hcz20_2); (try clear hfz12_0); (try clear hfz12_1); (try clear hfz12_2); (try clear hfz15_0); (try clear hfz15_1); (try clear hfz16_0); (try clear hfz16_1); (try clear hfz16_2); (try clear hfz20_0); (try clear hfz20_1); (try clear hfz20_2)
  obtain ⟨kq, x17_2, rfl, HA, HJ2, BK259, BK260, BK261, HB⟩ := hcut
  cases kq with
  | zero => exact absurd HA.out (fun h_ => by change none = some _ at h_; cases h_)
  | succ kj2 =>
   have H := HA.out
   clear HA
   simp only [spec_TakeExact.j0] at H
   by_cases c22 : x17_2 = true
   ·subst c22
    have H1 : (some (0, ([] : List (S49)), ([] : List (S49)), false)) = some (r1, r2, r3, r4) := by rw [if_pos rfl] at H; exact H
    clear H
    have H := H1
    clear H1
    simp only [Option.some.injEq, Prod.mk.injEq] at H
    obtain ⟨rfl, rfl, rfl, rfl⟩ := H
    have hnb23 := NB261_259.out
    have hnc23 := NB259_261.out
    have hnb24 := NB261_260.out
    have hnc24 := NB260_261.out
    have hcz25_0 : wc.cell? ⟨gb261, 0, none⟩ = some (.int .i64 0) := yc BK261.out 0
    have hcz25_1 : wc.cell? ⟨gb261, 1, none⟩ = some (.slice none 0 0) := yc BK261.out 1
    have hcz25_2 : wc.cell? ⟨gb261, 2, none⟩ = some (.slice none 0 0) := yc BK261.out 2
    have hfz25_0 := yZ BK261.out 0
    have hfz25_1 := yZ BK261.out 1
    have hfz25_2 := yZ BK261.out 2
    go_wp2
    refine bodyPost_ret (results_ct rfl _ _ gb261 24 #[.int .i64 0, .slice none 0 0, .slice none 0 0] (0, 0) _ rfl (by (with_reducible repeat (first | refine yN ?_ _ | refine yD ?_ | refine yA ?_ _)); refine yP (cs := #[.int .i64 0, .slice none 0 0, .slice none 0 0]) ?_ 2 _ rfl; (with_reducible repeat (first | refine yN ?_ _ | refine yD ?_ | refine yA ?_ _)); refine yP (cs := #[.int .i64 0, .slice none 0 0, .slice none 0 0]) ?_ 1 _ rfl; (with_reducible repeat (first | refine yN ?_ _ | refine yD ?_ | refine yA ?_ _)); refine yP (cs := #[.int .i64 0, .slice none 0 0, .slice none 0 0]) ?_ 0 _ rfl; (with_reducible repeat (first | refine yN ?_ _ | refine yD ?_ | refine yA ?_ _)); exact BK261.out) Try.underlying24 rfl (by kernel_rfl)) rfl ?_
    exact ⟨_, _, by first | rfl | (simp [errW_none, errW_some] <;> rfl) | (simp [*, errW_none, errW_some] <;> rfl), by first | exact Kd.R_nil _ _ _ _ _ | exact Kd.N_nil _ _ _ _ _ | exact Kd.V_nil _ _ _ _ _ | exact Kd.Q_nil _ _ _ _ _ | exact Kd.S_nil _ _ _ _ _, by first | exact Kd.R_nil _ _ _ _ _ | exact Kd.N_nil _ _ _ _ _ | exact Kd.V_nil _ _ _ _ _ | exact Kd.Q_nil _ _ _ _ _ | exact Kd.S_nil _ _ _ _ _, zH HB.out⟩
   ·replace c22 := Bool.eq_false_iff.mpr c22
    subst c22
    have H1 : ((spec_l5Within.f kj2 l0_1 a1_0 a1_1).bind fun t264 => (if t264 < 0 then (some (0, ([] : List (S49)), ([] : List (S49)), false)) else ((spec_l5Cut.f l0_1 t264 a1_0 a1_1).bind fun t265 => ((spec_l5Of.f kj2 a0_0 t265).bind fun bt268 => ((spec_GoodFree.f kj2 bt268.1 bt268.2.1 bt268.2.2).bind fun t276 => (if t276 = true then (some (bt268.1, bt268.2.1, bt268.2.2, true)) else (some (0, ([] : List (S49)), ([] : List (S49)), false)))))))) = some (r1, r2, r3, r4) := by rw [if_neg (show ¬ (false = true) by decide)] at H; exact H
    clear H
    have H := H1
    clear H1
    replace H := Option.bind_eq_some_iff.mp H
    obtain ⟨t264, A260, H⟩ := H
    replace H : (if t264 < 0 then (some (0, ([] : List (S49)), ([] : List (S49)), false)) else ((spec_l5Cut.f l0_1 t264 a1_0 a1_1).bind fun t265 => ((spec_l5Of.f kj2 a0_0 t265).bind fun bt268 => ((spec_GoodFree.f kj2 bt268.1 bt268.2.1 bt268.2.2).bind fun t276 => (if t276 = true then (some (bt268.1, bt268.2.1, bt268.2.2, true)) else (some (0, ([] : List (S49)), ([] : List (S49)), false))))))) = some (r1, r2, r3, r4) := H
    have A26 := aM A260
    clear A260
    by_cases c27 : t264 < 0
    ·rw [if_pos c27] at H
     have c27b0 : decide (t264 < 0) = true := decide_eq_true c27
     clear c27
     simp only [Option.some.injEq, Prod.mk.injEq] at H
     obtain ⟨rfl, rfl, rfl, rfl⟩ := H
     have hnb28 := NB259_260.out
     have hnc28 := NB260_259.out
     have hnb29 := NB259_261.out
     have hnc29 := NB261_259.out
     have hcz30_0 : wc.cell? ⟨gb259, 0, none⟩ = some (.int .i64 a0_0) := yc BK259.out 0
     have hcz30_1 : wc.cell? ⟨gb259, 1, none⟩ = some (.slice A0_1 l0_1.length c0_1) := yc BK259.out 1
     have hcz30_2 : wc.cell? ⟨gb259, 2, none⟩ = some (.slice A0_2 l0_2.length c0_2) := yc BK259.out 2
     have hfz30_0 := yZ BK259.out 0
     have hfz30_1 := yZ BK259.out 1
     have hfz30_2 := yZ BK259.out 2
     have hnb31 := NB260_261.out
     have hnc31 := NB261_260.out
     have hcz32_0 : wc.cell? ⟨gb260, 0, none⟩ = some (.int .i64 a1_0) := yc BK260.out 0
     have hcz32_1 : wc.cell? ⟨gb260, 1, none⟩ = some (.int .i64 a1_1) := yc BK260.out 1
     have hfz32_0 := yZ BK260.out 0
     have hfz32_1 := yZ BK260.out 1
     go_wp2_with (first | ((with_reducible refine gate_callee (f := 47) rfl ?_); refine goesL_ (some 22) rfl rfl Try.func47 (by kernel_rfl) rfl #[.slice A0_1 l0_1.length c0_1, .agg #[.int .i64 a1_0, .int .i64 a1_1]] rfl (by (try simp only [List.map_toArray, List.map_cons, List.map_nil]); first | done | rfl | (simp only [List.length_drop, List.length_take]; rfl)) ?_; (with_reducible refine (spec_l5Within.calls kj2 _ _ l0_1 a1_0 a1_1 t264 _ ?side1 ?side2 A26.out).mono ?_); (case side1 => exact cK HR0_1.out HB.out); (case side2 => exact HC0_1.out); rintro e w33 ⟨rfl, hb⟩; refine ⟨_, rfl, ?_⟩; replace BK259 := yK BK259.out hb; replace BK260 := yK BK260.out hb; replace BK261 := yK BK261.out hb; replace HB := aM (zT (zH HB.out) hb); (try clear hb); have hcz34_0 : w33.cell? ⟨gb261, 0, none⟩ = some (.int .i64 0) := yc BK261.out 0; have hcz34_1 : w33.cell? ⟨gb261, 1, none⟩ = some (.slice none 0 0) := yc BK261.out 1; have hcz34_2 : w33.cell? ⟨gb261, 2, none⟩ = some (.slice none 0 0) := yc BK261.out 2; have hfz34_0 := yZ BK261.out 0; have hfz34_1 := yZ BK261.out 1; have hfz34_2 := yZ BK261.out 2))
     refine bodyPost_ret (results_ct rfl _ _ gb261 24 #[.int .i64 0, .slice none 0 0, .slice none 0 0] (0, 0) _ rfl (by (with_reducible repeat (first | refine yN ?_ _ | refine yD ?_ | refine yA ?_ _)); refine yP (cs := #[.int .i64 0, .slice none 0 0, .slice none 0 0]) ?_ 2 _ rfl; (with_reducible repeat (first | refine yN ?_ _ | refine yD ?_ | refine yA ?_ _)); refine yP (cs := #[.int .i64 0, .slice none 0 0, .slice none 0 0]) ?_ 1 _ rfl; (with_reducible repeat (first | refine yN ?_ _ | refine yD ?_ | refine yA ?_ _)); refine yP (cs := #[.int .i64 0, .slice none 0 0, .slice none 0 0]) ?_ 0 _ rfl; (with_reducible repeat (first | refine yN ?_ _ | refine yD ?_ | refine yA ?_ _)); exact BK261.out) Try.underlying24 rfl (by kernel_rfl)) rfl ?_
     exact ⟨_, _, by first | rfl | (simp [errW_none, errW_some] <;> rfl) | (simp [*, errW_none, errW_some] <;> rfl), by first | exact Kd.R_nil _ _ _ _ _ | exact Kd.N_nil _ _ _ _ _ | exact Kd.V_nil _ _ _ _ _ | exact Kd.Q_nil _ _ _ _ _ | exact Kd.S_nil _ _ _ _ _, by first | exact Kd.R_nil _ _ _ _ _ | exact Kd.N_nil _ _ _ _ _ | exact Kd.V_nil _ _ _ _ _ | exact Kd.Q_nil _ _ _ _ _ | exact Kd.S_nil _ _ _ _ _, zH HB.out⟩
    ·rw [if_neg c27] at H
     have c27b0 : decide (t264 < 0) = false := decide_eq_false c27
     clear c27
     replace H := Option.bind_eq_some_iff.mp H
     obtain ⟨t265, A350, H⟩ := H
     replace H : ((spec_l5Of.f kj2 a0_0 t265).bind fun bt268 => ((spec_GoodFree.f kj2 bt268.1 bt268.2.1 bt268.2.2).bind fun t276 => (if t276 = true then (some (bt268.1, bt268.2.1, bt268.2.2, true)) else (some (0, ([] : List (S49)), ([] : List (S49)), false))))) = some (r1, r2, r3, r4) := H
     have A35 := aM A350
     clear A350
     replace H := Option.bind_eq_some_iff.mp H
     obtain ⟨⟨t268, t269, t272⟩, A360, H⟩ := H
     replace H : ((spec_GoodFree.f kj2 t268 t269 t272).bind fun t276 => (if t276 = true then (some (t268, t269, t272, true)) else (some (0, ([] : List (S49)), ([] : List (S49)), false)))) = some (r1, r2, r3, r4) := H
     have A36 := aM A360
     clear A360
     replace H := Option.bind_eq_some_iff.mp H
     obtain ⟨t276, A370, H⟩ := H
     replace H : (if t276 = true then (some (t268, t269, t272, true)) else (some (0, ([] : List (S49)), ([] : List (S49)), false))) = some (r1, r2, r3, r4) := H
     have A37 := aM A370
     clear A370
     by_cases c38 : t276 = true
     ·subst c38
      have H1 : (some (t268, t269, t272, true)) = some (r1, r2, r3, r4) := by rw [if_pos rfl] at H; exact H
      clear H
      have H := H1
      clear H1
      simp only [Option.some.injEq, Prod.mk.injEq] at H
      obtain ⟨rfl, rfl, rfl, rfl⟩ := H
      have hnb39 := NB259_260.out
      have hnc39 := NB260_259.out
      have hnb40 := NB259_261.out
      have hnc40 := NB261_259.out
      have hcz41_0 : wc.cell? ⟨gb259, 0, none⟩ = some (.int .i64 a0_0) := yc BK259.out 0
      have hcz41_1 : wc.cell? ⟨gb259, 1, none⟩ = some (.slice A0_1 l0_1.length c0_1) := yc BK259.out 1
      have hcz41_2 : wc.cell? ⟨gb259, 2, none⟩ = some (.slice A0_2 l0_2.length c0_2) := yc BK259.out 2
      have hfz41_0 := yZ BK259.out 0
      have hfz41_1 := yZ BK259.out 1
      have hfz41_2 := yZ BK259.out 2
      have hnb42 := NB260_261.out
      have hnc42 := NB261_260.out
      have hcz43_0 : wc.cell? ⟨gb260, 0, none⟩ = some (.int .i64 a1_0) := yc BK260.out 0
      have hcz43_1 : wc.cell? ⟨gb260, 1, none⟩ = some (.int .i64 a1_1) := yc BK260.out 1
      have hfz43_0 := yZ BK260.out 0
      have hfz43_1 := yZ BK260.out 1
      try go_wp2_with (first | ((with_reducible refine gate_callee (f := 47) rfl ?_); refine goesL_ (some 22) rfl rfl Try.func47 (by kernel_rfl) rfl #[.slice A0_1 l0_1.length c0_1, .agg #[.int .i64 a1_0, .int .i64 a1_1]] rfl (by (try simp only [List.map_toArray, List.map_cons, List.map_nil]); first | done | rfl | (simp only [List.length_drop, List.length_take]; rfl)) ?_; (with_reducible refine (spec_l5Within.calls kj2 _ _ l0_1 a1_0 a1_1 t264 _ ?side1 ?side2 A26.out).mono ?_); (case side1 => exact cK HR0_1.out HB.out); (case side2 => exact HC0_1.out); rintro e w44 ⟨rfl, hb⟩; refine ⟨_, rfl, ?_⟩; replace BK259 := yK BK259.out hb; replace BK260 := yK BK260.out hb; replace BK261 := yK BK261.out hb; replace HB := aM (zT (zH HB.out) hb); (try clear hb)))
      replace BK259 := aM (yD BK259.out)
      replace BK260 := aM (yD BK260.out)
      replace BK261 := aM (yD BK261.out)
      replace HB := aM (zD HB.out)
      refine start_ (n := 10) (S := fun w' => w'.cell? ⟨gb259, 0, none⟩ = some (.int .i64 a0_0) ∧ w'.cell? ⟨gb259, 1, none⟩ = some (.slice A0_1 l0_1.length c0_1) ∧ w'.cell? ⟨gb259, 2, none⟩ = some (.slice A0_2 l0_2.length c0_2) ∧ w'.cell? ⟨gb260, 0, none⟩ = some (.int .i64 a1_0) ∧ w'.cell? ⟨gb260, 1, none⟩ = some (.int .i64 a1_1)) (ds := []) #[fF,fF,fF,fF,fF,fF,fF,fF,fF,fF] (by kernel_rfl) rfl rfl ⟨yc BK259.out 0, yc BK259.out 1, yc BK259.out 2, yc BK260.out 0, yc BK260.out 1⟩ (fun hHeld => ?_); refine with_tabW spec_TakeExact.tab6 spec_TakeExact.bits6 (fun HT_ HW_ => ?_)
      generalize w44.drew = w45 at BK259 BK260 BK261 HB hHeld ⊢
      refine pure_ (i := 0) (N := some 26) (v := ?_) (a' := ?_) #[tT,fF,fF,fF,fF,fF,fF,fF,fF,fF] rfl rfl (any_of HT_.out (by kernel_rfl)) (fun _ _ _ h => h) (Or.inl ⟨by rfl, ?_⟩) ?_ ?_
      rotate_left
      ·intro w'
       go_simp
       with_reducible rfl
      rotate_left
      ·simp only [Act.put, qA, qB, qC, i64_w, i32_w]
       rfl
      refine pure_ (i := 2) (N := some 28) (v := ?_) (a' := ?_) #[tT,fF,tT,fF,fF,fF,fF,fF,fF,fF] rfl rfl (any_of HT_.out (by kernel_rfl)) (fun _ _ _ h => h) (Or.inl ⟨by rfl, ?_⟩) ?_ ?_
      rotate_left
      ·intro w'
       go_simp
       with_reducible rfl
      rotate_left
      ·simp only [Act.put, qA, qB, qC, i64_w, i32_w]
       rfl
      refine pure_ (i := 4) (N := some 30) (v := ?_) (a' := ?_) #[tT,fF,tT,fF,tT,fF,fF,fF,fF,fF] rfl rfl (any_of HT_.out (by kernel_rfl)) (fun _ _ _ h => h) (Or.inl ⟨by rfl, ?_⟩) ?_ ?_
      rotate_left
      ·intro w'
       go_simp
       with_reducible rfl
      rotate_left
      ·simp only [Act.put, qA, qB, qC, i64_w, i32_w]
       rfl
      refine take_ (i := 1) (N := some 27) (v := ?_) (a' := ?_) #[tT,tT,tT,fF,tT,fF,fF,fF,fF,fF] rfl rfl (take_ofW HT_.out HW_.out (by kernel_rfl)) (fun _ _ _ h => h) (Or.inl ⟨by rfl, ?_⟩) hHeld ?_ ?_
      rotate_left
      ·rintro w' ⟨s0, s1, s2, s3, s4⟩
       go_simp
       with_reducible rfl
      rotate_left
      ·simp only [Act.put, qA, qB, qC, i64_w, i32_w]
       rfl
      refine take_ (i := 3) (N := some 29) (v := ?_) (a' := ?_) #[tT,tT,tT,tT,tT,fF,fF,fF,fF,fF] rfl rfl (take_ofW HT_.out HW_.out (by kernel_rfl)) (fun _ _ _ h => h) (Or.inl ⟨by rfl, ?_⟩) hHeld ?_ ?_
      rotate_left
      ·rintro w' ⟨s0, s1, s2, s3, s4⟩
       go_simp
       with_reducible rfl
      rotate_left
      ·simp only [Act.put, qA, qB, qC, i64_w, i32_w]
       rfl
      refine take_ (i := 5) (N := some 31) (v := ?_) (a' := ?_) #[tT,tT,tT,tT,tT,tT,fF,fF,fF,fF] rfl rfl (take_ofW HT_.out HW_.out (by kernel_rfl)) (fun _ _ _ h => h) (Or.inl ⟨by rfl, ?_⟩) hHeld ?_ ?_
      rotate_left
      ·rintro w' ⟨s0, s1, s2, s3, s4⟩
       go_simp
       with_reducible rfl
      rotate_left
      ·simp only [Act.put, qA, qB, qC, i64_w, i32_w]
       rfl
      refine join_ (σ := Value × Value × Value × Nat) 1 #[tT,tT,tT,tT,tT,tT,tT,tT,tT,fF] (fun s_ => [(32, s_.1), (33, .agg #[.int .i64 t268, s_.2.1, s_.2.2.1]), (7, .pointer (some ⟨s_.2.2.2, 0, none⟩))]) (fun s_ w' => (w'.cell? ⟨gb259, 0, none⟩ = some (.int .i64 a0_0) ∧ w'.cell? ⟨gb259, 1, none⟩ = some (.slice A0_1 l0_1.length c0_1) ∧ w'.cell? ⟨gb259, 2, none⟩ = some (.slice A0_2 l0_2.length c0_2) ∧ w'.cell? ⟨gb260, 0, none⟩ = some (.int .i64 a1_0) ∧ w'.cell? ⟨gb260, 1, none⟩ = some (.int .i64 a1_1)) ∧ (Kd.R k49 49 w' w.heap.size (fun k_ => some k_ ≠ (s_.2.1 : Value).ownBlock ∧ some k_ ≠ (s_.2.2.1 : Value).ownBlock ∧ k_ ≠ gb260) s_.1 t265) ∧ (Kd.R k49 49 w' w.heap.size (fun k_ => some k_ ≠ (s_.1 : Value).ownBlock ∧ some k_ ≠ (s_.2.2.1 : Value).ownBlock ∧ k_ ≠ gb260) s_.2.1 t269) ∧ (Kd.R k49 49 w' w.heap.size (fun k_ => some k_ ≠ (s_.1 : Value).ownBlock ∧ some k_ ≠ (s_.2.1 : Value).ownBlock ∧ k_ ≠ gb260) s_.2.2.1 t272) ∧ (w'.heap[gb259]? = some (.cells #[.int .i64 a0_0, .slice A0_1 l0_1.length c0_1, .slice A0_2 l0_2.length c0_2] 24 (0, 0))) ∧ (w'.heap[gb260]? = some (.cells #[.int .i64 a1_0, .int .i64 a1_1] 49 (0, 0))) ∧ (w'.heap[gb261]? = some (.cells #[.int .i64 0, .slice none 0 0, .slice none 0 0] 24 (0, 0))) ∧ (w'.heap[s_.2.2.2]? = some (.cells #[.int .i64 0, .slice none 0 0, .slice none 0 0] 24 (0, 0))) ∧ (w.heap.size ≤ s_.2.2.2) ∧ (w.heap.size ≤ s_.2.2.2) ∧ (gb259 ≠ s_.2.2.2) ∧ (s_.2.2.2 ≠ gb259) ∧ (gb260 ≠ s_.2.2.2) ∧ (s_.2.2.2 ≠ gb260) ∧ (gb261 ≠ s_.2.2.2) ∧ (s_.2.2.2 ≠ gb261) ∧ (Below w.heap.size w w')) ?_ ?_
      rotate_left
      ·intro hCont
       refine two_ (i := 6) (j := 8) (Ni := some 32) (Nj := some 7) #[tT,tT,tT,tT,tT,tT,tT,fF,fF,fF] #[tT,tT,tT,tT,tT,tT,fF,fF,tT,fF] rfl rfl rfl rfl (two_of HT_.out (by kernel_rfl)) (by decide) (by decide) (fun K hK => ?_) (fun K hK => ?_)
       ·skip
        refine gS Try.func54 (by kernel_rfl) rfl #[.slice A0_1 l0_1.length c0_1, .int .i64 t264, .agg #[.int .i64 a1_0, .int .i64 a1_1]] (by rfl) rfl rfl ?_
        with_reducible refine (spec_l5Cut.calls _ _ l0_1 t264 a1_0 a1_1 t265 _ ?side1 ?side2 A35.out).mono ?_
        (case side1 => exact cK HR0_1.out HB.out)
        (case side2 => exact HC0_1.out)
        rintro e w46 ⟨v266, rfl, ho0, hb⟩
        refine ⟨_, rfl, ?_⟩
        have HO267 := aM (xL (Kd.R_newB ho0 (g := gb260) (o := .cells #[.int .i64 a1_0, .int .i64 a1_1] 49 (0, 0)) (yH BK260.out)) (zZ (zH HB.out)))
        replace BK259 := yK BK259.out hb
        replace BK260 := yK BK260.out hb
        replace BK261 := yK BK261.out hb
        replace HB := aM (zT (zH HB.out) hb)
        (try clear hb); (try clear ho0)
        obtain ⟨Ao47, co47, eo47⟩ := Kd.R_slice HO267.out
        (first | subst eo47 | obtain ⟨rfl, rfl⟩ := eI eo47)
        refine hK.out _ _ ⟨yc BK259.out 0, yc BK259.out 1, yc BK259.out 2, yc BK260.out 0, yc BK260.out 1⟩ (fun hHeld => ?_)
        clear hK K
        refine norm_ (a' := ?_) ?_ ?_
        rotate_left
        ·show Act.put _ (some 32) _ = _
         simp only [Act.put, qA, qB, qC, i64_w, i32_w]
         rfl
        refine two_ (i := 7) (j := 8) (Ni := some 33) (Nj := some 7) #[tT,tT,tT,tT,tT,tT,tT,tT,fF,fF] #[tT,tT,tT,tT,tT,tT,tT,fF,tT,fF] rfl rfl rfl rfl (two_of HT_.out (by kernel_rfl)) (by decide) (by decide) (fun K hK => ?_) (fun K hK => ?_)
        ·skip
         refine gS Try.func37 (by kernel_rfl) rfl #[.int .i64 a0_0, .slice Ao47 t265.length co47] (by rfl) rfl rfl ?_
         with_reducible refine (spec_l5Of.calls kj2 a0_0 _ _ t265 t268 t269 t272 _ ?side1 ?side2 A36.out).mono ?_
         (case side1 => repeat (first | exact (Kd.R_reads' HO267.out).2.2 | (with_reducible refine cA ?_ _) | (with_reducible refine cN ?_ _) | (with_reducible refine cD ?_)))
         (case side2 => exact (Kd.R_reads' HO267.out).2.1)
         rintro e w48 ⟨v270, v273, rfl, ho0, ho1, hb⟩
         refine ⟨_, rfl, ?_⟩
         have HO271 := aM (xL (Kd.R_newB (Kd.R_new' ho0 (Kd.R_lt (xH HO267.out))) (g := gb260) (o := .cells #[.int .i64 a1_0, .int .i64 a1_1] 49 (0, 0)) (yH BK260.out)) (zZ (zH HB.out)))
         have HO274 := aM (xL (Kd.R_newB (Kd.R_new' ho1 (Kd.R_lt (xH HO267.out))) (g := gb260) (o := .cells #[.int .i64 a1_0, .int .i64 a1_1] 49 (0, 0)) (yH BK260.out)) (zZ (zH HB.out)))
         replace HO267 := aM (xM (Kd.R_told (Kd.R_told (Kd.R_old (xH HO267.out) hb) (Kd.R_base ho0)) (Kd.R_base ho1)) (fun _ h_ => h_.1))
         replace BK259 := yK BK259.out hb
         replace BK260 := yK BK260.out hb
         replace BK261 := yK BK261.out hb
         replace HB := aM (zT (zH HB.out) hb)
         (try clear hb); (try clear ho0); (try clear ho1)
         refine hK.out _ _ ⟨yc BK259.out 0, yc BK259.out 1, yc BK259.out 2, yc BK260.out 0, yc BK260.out 1⟩ (fun hHeld => ?_)
         clear hK K
         refine norm_ (a' := ?_) ?_ ?_
         rotate_left
         ·show Act.put _ (some 33) _ = _
          simp only [Act.put, qA, qB, qC, i64_w, i32_w]
          rfl
         refine one_ (i := 8) (N := some 7) #[tT,tT,tT,tT,tT,tT,tT,tT,tT,fF] rfl rfl (one_of HT_.out (by kernel_rfl)) (by decide) (fun K hK => ?_)
         refine box_step ?hg (N := 7) ?hd (cs := #[.int .i64 0, .slice none 0 0, .slice none 0 0]) (t := 24) ?hr ?_; (case hd => rfl); (case hg => rfl); (case hr => first | (go_simp; done) | (go_simp; rfl))
         intro gb275 hg w49 hbox hb
         replace HO267 := xK HO267.out hb
         replace HO271 := xK HO271.out hb
         replace HO274 := xK HO274.out hb
         have BK275 := aM (hbox)
         have GW275 := aM ((by rw [hg]; exact (zZ (zH HB.out)) : w.heap.size ≤ gb275))
         have GE275 := aM ((by rw [hg]; exact (zZ (zH HB.out)) : w.heap.size ≤ gb275))
         replace HB := aM (zT (zH HB.out) hb)
         have NB259_275 := nL BK259.out hg
         have NB275_259 := nR BK259.out hg
         replace BK259 := yK BK259.out hb
         have NB260_275 := nL BK260.out hg
         have NB275_260 := nR BK260.out hg
         replace BK260 := yK BK260.out hb
         have NB261_275 := nL BK261.out hg
         have NB275_261 := nR BK261.out hg
         replace BK261 := yK BK261.out hb
         clear hb hbox hg
         refine hK.out _ _ ⟨yc BK259.out 0, yc BK259.out 1, yc BK259.out 2, yc BK260.out 0, yc BK260.out 1⟩ (fun hHeld => ?_)
         clear hK K
         refine norm_ (a' := ?_) ?_ ?_
         rotate_left
         ·show Act.put _ (some 7) _ = _
          simp only [Act.put, qA, qB, qC, i64_w, i32_w]
          rfl
         exact norm_ (by simp only [putAll, Act.put, qA, qB, qC]) (hCont (.slice Ao47 t265.length co47, v270, v273, gb275) _ ⟨hHeld, (xH (xM HO267.out (fun _ hk => ⟨hk.1.2, ⟨hk.2, hk.1.1.2⟩⟩))), (xH (xM HO271.out (fun _ hk => ⟨hk.1.2, ⟨hk.1.1, hk.2⟩⟩))), (xH (xM HO274.out (fun _ hk => ⟨hk.1.2, ⟨hk.1.1, hk.2⟩⟩))), (yH BK259.out), (yH BK260.out), (yH BK261.out), (yH BK275.out), GW275.out, GE275.out, NB259_275.out, NB275_259.out, NB260_275.out, NB275_260.out, NB261_275.out, NB275_261.out, (zH HB.out)⟩)
        ·skip
         refine box_step ?hg (N := 7) ?hd (cs := #[.int .i64 0, .slice none 0 0, .slice none 0 0]) (t := 24) ?hr ?_; (case hd => rfl); (case hg => rfl); (case hr => first | (go_simp; done) | (go_simp; rfl))
         intro gb275 hg w47 hbox hb
         replace HO267 := xK HO267.out hb
         have BK275 := aM (hbox)
         have GW275 := aM ((by rw [hg]; exact (zZ (zH HB.out)) : w.heap.size ≤ gb275))
         have GE275 := aM ((by rw [hg]; exact (zZ (zH HB.out)) : w.heap.size ≤ gb275))
         replace HB := aM (zT (zH HB.out) hb)
         have NB259_275 := nL BK259.out hg
         have NB275_259 := nR BK259.out hg
         replace BK259 := yK BK259.out hb
         have NB260_275 := nL BK260.out hg
         have NB275_260 := nR BK260.out hg
         replace BK260 := yK BK260.out hb
         have NB261_275 := nL BK261.out hg
         have NB275_261 := nR BK261.out hg
         replace BK261 := yK BK261.out hb
         clear hb hbox hg
         obtain ⟨Ao48, co48, eo48⟩ := Kd.R_slice HO267.out
         (first | subst eo48 | obtain ⟨rfl, rfl⟩ := eI eo48)
         refine hK.out _ _ ⟨yc BK259.out 0, yc BK259.out 1, yc BK259.out 2, yc BK260.out 0, yc BK260.out 1⟩ (fun hHeld => ?_)
         clear hK K
         refine norm_ (a' := ?_) ?_ ?_
         rotate_left
         ·show Act.put _ (some 7) _ = _
          simp only [Act.put, qA, qB, qC, i64_w, i32_w]
          rfl
         refine one_ (i := 7) (N := some 33) #[tT,tT,tT,tT,tT,tT,tT,tT,tT,fF] rfl rfl (one_of HT_.out (by kernel_rfl)) (by decide) (fun K hK => ?_)
         refine gS Try.func37 (by kernel_rfl) rfl #[.int .i64 a0_0, .slice Ao48 t265.length co48] (by rfl) rfl rfl ?_
         with_reducible refine (spec_l5Of.calls kj2 a0_0 _ _ t265 t268 t269 t272 _ ?side1 ?side2 A36.out).mono ?_
         (case side1 => repeat (first | exact (Kd.R_reads' HO267.out).2.2 | (with_reducible refine cA ?_ _) | (with_reducible refine cN ?_ _) | (with_reducible refine cD ?_)))
         (case side2 => exact (Kd.R_reads' HO267.out).2.1)
         rintro e w49 ⟨v270, v273, rfl, ho0, ho1, hb⟩
         refine ⟨_, rfl, ?_⟩
         have HO271 := aM (xL (Kd.R_newB (Kd.R_new' ho0 (Kd.R_lt (xH HO267.out))) (g := gb260) (o := .cells #[.int .i64 a1_0, .int .i64 a1_1] 49 (0, 0)) (yH BK260.out)) (zZ (zH HB.out)))
         have HO274 := aM (xL (Kd.R_newB (Kd.R_new' ho1 (Kd.R_lt (xH HO267.out))) (g := gb260) (o := .cells #[.int .i64 a1_0, .int .i64 a1_1] 49 (0, 0)) (yH BK260.out)) (zZ (zH HB.out)))
         replace HO267 := aM (xM (Kd.R_told (Kd.R_told (Kd.R_old (xH HO267.out) hb) (Kd.R_base ho0)) (Kd.R_base ho1)) (fun _ h_ => h_.1))
         replace BK259 := yK BK259.out hb
         replace BK260 := yK BK260.out hb
         replace BK261 := yK BK261.out hb
         replace BK275 := yK BK275.out hb
         replace HB := aM (zT (zH HB.out) hb)
         (try clear hb); (try clear ho0); (try clear ho1)
         refine hK.out _ _ ⟨yc BK259.out 0, yc BK259.out 1, yc BK259.out 2, yc BK260.out 0, yc BK260.out 1⟩ (fun hHeld => ?_)
         clear hK K
         refine norm_ (a' := ?_) ?_ ?_
         rotate_left
         ·show Act.put _ (some 33) _ = _
          simp only [Act.put, qA, qB, qC, i64_w, i32_w]
          rfl
         exact norm_ (by simp only [putAll, Act.put, qA, qB, qC]) (hCont (.slice Ao48 t265.length co48, v270, v273, gb275) _ ⟨hHeld, (xH (xM HO267.out (fun _ hk => ⟨hk.1.2, ⟨hk.2, hk.1.1.2⟩⟩))), (xH (xM HO271.out (fun _ hk => ⟨hk.1.2, ⟨hk.1.1, hk.2⟩⟩))), (xH (xM HO274.out (fun _ hk => ⟨hk.1.2, ⟨hk.1.1, hk.2⟩⟩))), (yH BK259.out), (yH BK260.out), (yH BK261.out), (yH BK275.out), GW275.out, GE275.out, NB259_275.out, NB275_259.out, NB260_275.out, NB275_260.out, NB261_275.out, NB275_261.out, (zH HB.out)⟩)
       ·skip
        refine box_step ?hg (N := 7) ?hd (cs := #[.int .i64 0, .slice none 0 0, .slice none 0 0]) (t := 24) ?hr ?_; (case hd => rfl); (case hg => rfl); (case hr => first | (go_simp; done) | (go_simp; rfl))
        intro gb275 hg w46 hbox hb
        have BK275 := aM (hbox)
        have GW275 := aM ((by rw [hg]; exact (zZ (zH HB.out)) : w.heap.size ≤ gb275))
        have GE275 := aM ((by rw [hg]; exact (zZ (zH HB.out)) : w.heap.size ≤ gb275))
        replace HB := aM (zT (zH HB.out) hb)
        have NB259_275 := nL BK259.out hg
        have NB275_259 := nR BK259.out hg
        replace BK259 := yK BK259.out hb
        have NB260_275 := nL BK260.out hg
        have NB275_260 := nR BK260.out hg
        replace BK260 := yK BK260.out hb
        have NB261_275 := nL BK261.out hg
        have NB275_261 := nR BK261.out hg
        replace BK261 := yK BK261.out hb
        clear hb hbox hg
        refine hK.out _ _ ⟨yc BK259.out 0, yc BK259.out 1, yc BK259.out 2, yc BK260.out 0, yc BK260.out 1⟩ (fun hHeld => ?_)
        clear hK K
        refine norm_ (a' := ?_) ?_ ?_
        rotate_left
        ·show Act.put _ (some 7) _ = _
         simp only [Act.put, qA, qB, qC, i64_w, i32_w]
         rfl
        refine one_ (i := 6) (N := some 32) #[tT,tT,tT,tT,tT,tT,tT,fF,tT,fF] rfl rfl (one_of HT_.out (by kernel_rfl)) (by decide) (fun K hK => ?_)
        refine gS Try.func54 (by kernel_rfl) rfl #[.slice A0_1 l0_1.length c0_1, .int .i64 t264, .agg #[.int .i64 a1_0, .int .i64 a1_1]] (by rfl) rfl rfl ?_
        with_reducible refine (spec_l5Cut.calls _ _ l0_1 t264 a1_0 a1_1 t265 _ ?side1 ?side2 A35.out).mono ?_
        (case side1 => exact cK HR0_1.out HB.out)
        (case side2 => exact HC0_1.out)
        rintro e w47 ⟨v266, rfl, ho0, hb⟩
        refine ⟨_, rfl, ?_⟩
        have HO267 := aM (xL (Kd.R_newB ho0 (g := gb260) (o := .cells #[.int .i64 a1_0, .int .i64 a1_1] 49 (0, 0)) (yH BK260.out)) (zZ (zH HB.out)))
        replace BK259 := yK BK259.out hb
        replace BK260 := yK BK260.out hb
        replace BK261 := yK BK261.out hb
        replace BK275 := yK BK275.out hb
        replace HB := aM (zT (zH HB.out) hb)
        (try clear hb); (try clear ho0)
        obtain ⟨Ao48, co48, eo48⟩ := Kd.R_slice HO267.out
        (first | subst eo48 | obtain ⟨rfl, rfl⟩ := eI eo48)
        refine hK.out _ _ ⟨yc BK259.out 0, yc BK259.out 1, yc BK259.out 2, yc BK260.out 0, yc BK260.out 1⟩ (fun hHeld => ?_)
        clear hK K
        refine norm_ (a' := ?_) ?_ ?_
        rotate_left
        ·show Act.put _ (some 32) _ = _
         simp only [Act.put, qA, qB, qC, i64_w, i32_w]
         rfl
        refine one_ (i := 7) (N := some 33) #[tT,tT,tT,tT,tT,tT,tT,tT,tT,fF] rfl rfl (one_of HT_.out (by kernel_rfl)) (by decide) (fun K hK => ?_)
        refine gS Try.func37 (by kernel_rfl) rfl #[.int .i64 a0_0, .slice Ao48 t265.length co48] (by rfl) rfl rfl ?_
        with_reducible refine (spec_l5Of.calls kj2 a0_0 _ _ t265 t268 t269 t272 _ ?side1 ?side2 A36.out).mono ?_
        (case side1 => repeat (first | exact (Kd.R_reads' HO267.out).2.2 | (with_reducible refine cA ?_ _) | (with_reducible refine cN ?_ _) | (with_reducible refine cD ?_)))
        (case side2 => exact (Kd.R_reads' HO267.out).2.1)
        rintro e w49 ⟨v270, v273, rfl, ho0, ho1, hb⟩
        refine ⟨_, rfl, ?_⟩
        have HO271 := aM (xL (Kd.R_newB (Kd.R_new' ho0 (Kd.R_lt (xH HO267.out))) (g := gb260) (o := .cells #[.int .i64 a1_0, .int .i64 a1_1] 49 (0, 0)) (yH BK260.out)) (zZ (zH HB.out)))
        have HO274 := aM (xL (Kd.R_newB (Kd.R_new' ho1 (Kd.R_lt (xH HO267.out))) (g := gb260) (o := .cells #[.int .i64 a1_0, .int .i64 a1_1] 49 (0, 0)) (yH BK260.out)) (zZ (zH HB.out)))
        replace HO267 := aM (xM (Kd.R_told (Kd.R_told (Kd.R_old (xH HO267.out) hb) (Kd.R_base ho0)) (Kd.R_base ho1)) (fun _ h_ => h_.1))
        replace BK259 := yK BK259.out hb
        replace BK260 := yK BK260.out hb
        replace BK261 := yK BK261.out hb
        replace BK275 := yK BK275.out hb
        replace HB := aM (zT (zH HB.out) hb)
        (try clear hb); (try clear ho0); (try clear ho1)
        refine hK.out _ _ ⟨yc BK259.out 0, yc BK259.out 1, yc BK259.out 2, yc BK260.out 0, yc BK260.out 1⟩ (fun hHeld => ?_)
        clear hK K
        refine norm_ (a' := ?_) ?_ ?_
        rotate_left
        ·show Act.put _ (some 33) _ = _
         simp only [Act.put, qA, qB, qC, i64_w, i32_w]
         rfl
        exact norm_ (by simp only [putAll, Act.put, qA, qB, qC]) (hCont (.slice Ao48 t265.length co48, v270, v273, gb275) _ ⟨hHeld, (xH (xM HO267.out (fun _ hk => ⟨hk.1.2, ⟨hk.2, hk.1.1.2⟩⟩))), (xH (xM HO271.out (fun _ hk => ⟨hk.1.2, ⟨hk.1.1, hk.2⟩⟩))), (xH (xM HO274.out (fun _ hk => ⟨hk.1.2, ⟨hk.1.1, hk.2⟩⟩))), (yH BK259.out), (yH BK260.out), (yH BK261.out), (yH BK275.out), GW275.out, GE275.out, NB259_275.out, NB275_259.out, NB260_275.out, NB275_260.out, NB261_275.out, NB275_261.out, (zH HB.out)⟩)
      rintro ⟨v266, v270, v273, gb275⟩ w50 ⟨hS_, h0_, h1_, h2_, h3_, h4_, h5_, h6_, h7_, h8_, h9_, h10_, h11_, h12_, h13_, h14_, h15_⟩
      (try dsimp only at h0_ h1_ h2_ h3_ h4_ h5_ h6_ h7_ h8_ h9_ h10_ h11_ h12_ h13_ h14_ h15_)
      have n0_ := aM h0_
      have n1_ := aM h1_
      have n2_ := aM h2_
      have n3_ := aM h3_
      have n4_ := aM h4_
      have n5_ := aM h5_
      have n6_ := aM h6_
      have n7_ := aM h7_
      have n8_ := aM h8_
      have n9_ := aM h9_
      have n10_ := aM h10_
      have n11_ := aM h11_
      have n12_ := aM h12_
      have n13_ := aM h13_
      have n14_ := aM h14_
      have n15_ := aM h15_
      clear BK259 BK260 BK261 HB h0_ h1_ h2_ h3_ h4_ h5_ h6_ h7_ h8_ h9_ h10_ h11_ h12_ h13_ h14_ h15_
      have HO267 := n0_
      have HO271 := n1_
      have HO274 := n2_
      have BK259 := n3_
      have BK260 := n4_
      have BK261 := n5_
      have BK275 := n6_
      have GW275 := n7_
      have GE275 := n8_
      have NB259_275 := n9_
      have NB275_259 := n10_
      have NB260_275 := n11_
      have NB275_260 := n12_
      have NB261_275 := n13_
      have NB275_261 := n14_
      have HB := n15_
      clear n0_ n1_ n2_ n3_ n4_ n5_ n6_ n7_ n8_ n9_ n10_ n11_ n12_ n13_ n14_ n15_
      have hHeld : w50.cell? ⟨gb259, 0, none⟩ = some (.int .i64 a0_0) ∧ w50.cell? ⟨gb259, 1, none⟩ = some (.slice A0_1 l0_1.length c0_1) ∧ w50.cell? ⟨gb259, 2, none⟩ = some (.slice A0_2 l0_2.length c0_2) ∧ w50.cell? ⟨gb260, 0, none⟩ = some (.int .i64 a1_0) ∧ w50.cell? ⟨gb260, 1, none⟩ = some (.int .i64 a1_1) := hS_
      obtain ⟨Ao52, co52, eo52⟩ := Kd.R_slice HO271.out
      (first | subst eo52 | obtain ⟨rfl, rfl⟩ := eI eo52)
      obtain ⟨Ao54, co54, eo54⟩ := Kd.R_slice HO274.out
      (first | subst eo54 | obtain ⟨rfl, rfl⟩ := eI eo54)
      refine norm_ (a' := ?_) ?_ ?_
      rotate_left
      ·simp only [putAll, Act.put, qA, qB, qC]
       rfl
      refine one_ (i := 9) (N := none) #[tT,tT,tT,tT,tT,tT,tT,tT,tT,tT] rfl rfl (one_of HT_.out (by kernel_rfl)) (by decide) (fun K hK => ?_)
      have hs51 : w50.cell? ⟨gb275, 0, none⟩ = some (.int .i64 0) := yc BK275.out 0
      have hfs51 := yZ BK275.out 0
      have hns51_0 := NB259_275.out
      have hns51_1 := NB260_275.out
      have hns51_2 := NB261_275.out
      have hms51_0 := NB275_259.out
      have hms51_1 := NB275_260.out
      have hms51_2 := NB275_261.out
      have hs53 : w50.cell? ⟨gb275, 1, none⟩ = some (.slice none 0 0) := yc BK275.out 1
      have hfs53 := yZ BK275.out 1
      have hns53_0 := NB259_275.out
      have hns53_1 := NB260_275.out
      have hns53_2 := NB261_275.out
      have hms53_0 := NB275_259.out
      have hms53_1 := NB275_260.out
      have hms53_2 := NB275_261.out
      have hs55 : w50.cell? ⟨gb275, 2, none⟩ = some (.slice none 0 0) := yc BK275.out 2
      have hfs55 := yZ BK275.out 2
      have hns55_0 := NB259_275.out
      have hns55_1 := NB260_275.out
      have hns55_2 := NB261_275.out
      have hms55_0 := NB275_259.out
      have hms55_1 := NB275_260.out
      have hms55_2 := NB275_261.out
      refine skip_ (w1 := ?_) (by rfl) rfl ?_ ?_
      rotate_left
      ·go_simp
       rfl
      refine hK.out _ _ ⟨((cell_far (p := ⟨gb275, _, none⟩) NB259_275.out _).trans (((cell_far (p := ⟨gb275, _, none⟩) NB259_275.out _).trans (((cell_far (p := ⟨gb275, _, none⟩) NB259_275.out _).trans (hHeld.1)))))), ((cell_far (p := ⟨gb275, _, none⟩) NB259_275.out _).trans (((cell_far (p := ⟨gb275, _, none⟩) NB259_275.out _).trans (((cell_far (p := ⟨gb275, _, none⟩) NB259_275.out _).trans (hHeld.2.1)))))), ((cell_far (p := ⟨gb275, _, none⟩) NB259_275.out _).trans (((cell_far (p := ⟨gb275, _, none⟩) NB259_275.out _).trans (((cell_far (p := ⟨gb275, _, none⟩) NB259_275.out _).trans (hHeld.2.2.1)))))), ((cell_far (p := ⟨gb275, _, none⟩) NB260_275.out _).trans (((cell_far (p := ⟨gb275, _, none⟩) NB260_275.out _).trans (((cell_far (p := ⟨gb275, _, none⟩) NB260_275.out _).trans (hHeld.2.2.2.1)))))), ((cell_far (p := ⟨gb275, _, none⟩) NB260_275.out _).trans (((cell_far (p := ⟨gb275, _, none⟩) NB260_275.out _).trans (((cell_far (p := ⟨gb275, _, none⟩) NB260_275.out _).trans (hHeld.2.2.2.2))))))⟩ (fun hHeld => ?_)
      clear hK K
      refine done_ (done_of HT_.out (by kernel_rfl)) ?_
      have hnb56 := NB275_259.out
      have hnc56 := NB259_275.out
      have hnb57 := NB275_260.out
      have hnc57 := NB260_275.out
      have hnb58 := NB275_261.out
      have hnc58 := NB261_275.out
      have hcz59_0 : w50.cell? ⟨gb275, 0, none⟩ = some (.int .i64 0) := yc BK275.out 0
      have hcz59_1 : w50.cell? ⟨gb275, 1, none⟩ = some (.slice none 0 0) := yc BK275.out 1
      have hcz59_2 : w50.cell? ⟨gb275, 2, none⟩ = some (.slice none 0 0) := yc BK275.out 2
      have hfz59_0 := yZ BK275.out 0
      have hfz59_1 := yZ BK275.out 1
      have hfz59_2 := yZ BK275.out 2
      try go_wp2_with (first | ((with_reducible refine gate_callee (f := 17) rfl ?_); refine goesL_ (some 35) rfl rfl Try.func17 (by kernel_rfl) rfl #[.agg #[.int .i64 t268, .slice Ao52 t269.length co52, .slice Ao54 t272.length co54]] rfl (by (try simp only [List.map_toArray, List.map_cons, List.map_nil]); first | done | rfl | (simp only [List.length_drop, List.length_take]; rfl)) ?_; (with_reducible refine (spec_GoodFree.calls kj2 t268 _ _ t269 _ _ t272 true _ ?side1 ?side2 ?side3 ?side4 A37.out).mono ?_); (case side1 => exact rC (n := t269.length) (c := co52) ((x3 HO271.out BK275.out (by decide) (.int .i64 t268) (.slice Ao52 t269.length co52) (.slice Ao54 t272.length co54)))); (case side2 => exact (Kd.R_reads' HO271.out).2.1); (case side3 => exact rC (n := t272.length) (c := co54) ((x3 HO274.out BK275.out (by decide) (.int .i64 t268) (.slice Ao52 t269.length co52) (.slice Ao54 t272.length co54)))); (case side4 => exact (Kd.R_reads' HO274.out).2.1); rintro e w60 ⟨rfl, hb⟩; refine ⟨_, rfl, ?_⟩; replace HO267 := aM (xB (xH ((x3 HO267.out BK275.out (by decide) (.int .i64 t268) (.slice Ao52 t269.length co52) (.slice Ao54 t272.length co54)))) hb); replace HO271 := aM (xB (xH ((x3 HO271.out BK275.out (by decide) (.int .i64 t268) (.slice Ao52 t269.length co52) (.slice Ao54 t272.length co54)))) hb); replace HO274 := aM (xB (xH ((x3 HO274.out BK275.out (by decide) (.int .i64 t268) (.slice Ao52 t269.length co52) (.slice Ao54 t272.length co54)))) hb); replace BK259 := aM (yB (g := gb259) (o := .cells #[.int .i64 a0_0, .slice A0_1 l0_1.length c0_1, .slice A0_2 l0_2.length c0_2] 24 (0, 0)) (by (with_reducible repeat (first | refine yN ?_ _ | refine yD ?_ | refine yA ?_ _)); refine yF ?_ NB259_275.out _; (with_reducible repeat (first | refine yN ?_ _ | refine yD ?_ | refine yA ?_ _)); refine yF ?_ NB259_275.out _; (with_reducible repeat (first | refine yN ?_ _ | refine yD ?_ | refine yA ?_ _)); refine yF ?_ NB259_275.out _; (with_reducible repeat (first | refine yN ?_ _ | refine yD ?_ | refine yA ?_ _)); exact BK259.out) hb); replace BK260 := aM (yB (g := gb260) (o := .cells #[.int .i64 a1_0, .int .i64 a1_1] 49 (0, 0)) (by (with_reducible repeat (first | refine yN ?_ _ | refine yD ?_ | refine yA ?_ _)); refine yF ?_ NB260_275.out _; (with_reducible repeat (first | refine yN ?_ _ | refine yD ?_ | refine yA ?_ _)); refine yF ?_ NB260_275.out _; (with_reducible repeat (first | refine yN ?_ _ | refine yD ?_ | refine yA ?_ _)); refine yF ?_ NB260_275.out _; (with_reducible repeat (first | refine yN ?_ _ | refine yD ?_ | refine yA ?_ _)); exact BK260.out) hb); replace BK261 := aM (yB (g := gb261) (o := .cells #[.int .i64 0, .slice none 0 0, .slice none 0 0] 24 (0, 0)) (by (with_reducible repeat (first | refine yN ?_ _ | refine yD ?_ | refine yA ?_ _)); refine yF ?_ NB261_275.out _; (with_reducible repeat (first | refine yN ?_ _ | refine yD ?_ | refine yA ?_ _)); refine yF ?_ NB261_275.out _; (with_reducible repeat (first | refine yN ?_ _ | refine yD ?_ | refine yA ?_ _)); refine yF ?_ NB261_275.out _; (with_reducible repeat (first | refine yN ?_ _ | refine yD ?_ | refine yA ?_ _)); exact BK261.out) hb); replace BK275 := aM (yB (g := gb275) (o := .cells #[.int .i64 t268, .slice Ao52 t269.length co52, .slice Ao54 t272.length co54] 24 (0, 0)) (by (with_reducible repeat (first | refine yN ?_ _ | refine yD ?_ | refine yA ?_ _)); refine yP (cs := #[.int .i64 t268, .slice Ao52 t269.length co52, .slice none 0 0]) ?_ 2 _ rfl; (with_reducible repeat (first | refine yN ?_ _ | refine yD ?_ | refine yA ?_ _)); refine yP (cs := #[.int .i64 t268, .slice none 0 0, .slice none 0 0]) ?_ 1 _ rfl; (with_reducible repeat (first | refine yN ?_ _ | refine yD ?_ | refine yA ?_ _)); refine yP (cs := #[.int .i64 0, .slice none 0 0, .slice none 0 0]) ?_ 0 _ rfl; (with_reducible repeat (first | refine yN ?_ _ | refine yD ?_ | refine yA ?_ _)); exact BK275.out) hb); replace HB := aM (zT (zH HB.out) hb); (try clear hb); have hcz61_0 : w60.cell? ⟨gb275, 0, none⟩ = some (.int .i64 t268) := yc BK275.out 0; have hcz61_1 : w60.cell? ⟨gb275, 1, none⟩ = some (.slice Ao52 t269.length co52) := yc BK275.out 1; have hcz61_2 : w60.cell? ⟨gb275, 2, none⟩ = some (.slice Ao54 t272.length co54) := yc BK275.out 2; have hfz61_0 := yZ BK275.out 0; have hfz61_1 := yZ BK275.out 1; have hfz61_2 := yZ BK275.out 2; have hcz62_0 : w60.cell? ⟨gb261, 0, none⟩ = some (.int .i64 0) := yc BK261.out 0; have hcz62_1 : w60.cell? ⟨gb261, 1, none⟩ = some (.slice none 0 0) := yc BK261.out 1; have hcz62_2 : w60.cell? ⟨gb261, 2, none⟩ = some (.slice none 0 0) := yc BK261.out 2; have hfz62_0 := yZ BK261.out 0; have hfz62_1 := yZ BK261.out 1; have hfz62_2 := yZ BK261.out 2))
      refine bodyPost_ret (results_ct rfl _ _ gb261 24 #[.int .i64 t268, .slice Ao52 t269.length co52, .slice Ao54 t272.length co54] (0, 0) _ rfl (by (with_reducible repeat (first | refine yN ?_ _ | refine yD ?_ | refine yA ?_ _)); refine yP (cs := #[.int .i64 t268, .slice Ao52 t269.length co52, .slice none 0 0]) ?_ 2 _ rfl; (with_reducible repeat (first | refine yN ?_ _ | refine yD ?_ | refine yA ?_ _)); refine yP (cs := #[.int .i64 t268, .slice none 0 0, .slice none 0 0]) ?_ 1 _ rfl; (with_reducible repeat (first | refine yN ?_ _ | refine yD ?_ | refine yA ?_ _)); refine yP (cs := #[.int .i64 0, .slice none 0 0, .slice none 0 0]) ?_ 0 _ rfl; (with_reducible repeat (first | refine yN ?_ _ | refine yD ?_ | refine yA ?_ _)); exact BK261.out) Try.underlying24 rfl (by kernel_rfl)) rfl ?_
      exact ⟨_, _, by first | rfl | (simp [errW_none, errW_some] <;> rfl) | (simp [*, errW_none, errW_some] <;> rfl), xH (xM (xF (p := ⟨gb261, 2, none⟩) (xF (p := ⟨gb261, 1, none⟩) (xF (p := ⟨gb261, 0, none⟩) (xT HO271.out BK261.out (by decide)) (fun _ hk => hk.2) (.int .i64 t268)) (fun _ hk => hk.2) (.slice Ao52 t269.length co52)) (fun _ hk => hk.2) (.slice Ao54 t272.length co54)) (fun _ hk => hk.1.2.1)), xH (xM (xF (p := ⟨gb261, 2, none⟩) (xF (p := ⟨gb261, 1, none⟩) (xF (p := ⟨gb261, 0, none⟩) (xT HO274.out BK261.out (by decide)) (fun _ hk => hk.2) (.int .i64 t268)) (fun _ hk => hk.2) (.slice Ao52 t269.length co52)) (fun _ hk => hk.2) (.slice Ao54 t272.length co54)) (fun _ hk => hk.1.2.1)), zH HB.out⟩
     ·replace c38 := Bool.eq_false_iff.mpr c38
      subst c38
      have H1 : (some (0, ([] : List (S49)), ([] : List (S49)), false)) = some (r1, r2, r3, r4) := by rw [if_neg (show ¬ (false = true) by decide)] at H; exact H
      clear H
      have H := H1
      clear H1
      simp only [Option.some.injEq, Prod.mk.injEq] at H
      obtain ⟨rfl, rfl, rfl, rfl⟩ := H
      have hnb63 := NB259_260.out
      have hnc63 := NB260_259.out
      have hnb64 := NB259_261.out
      have hnc64 := NB261_259.out
      have hcz65_0 : wc.cell? ⟨gb259, 0, none⟩ = some (.int .i64 a0_0) := yc BK259.out 0
      have hcz65_1 : wc.cell? ⟨gb259, 1, none⟩ = some (.slice A0_1 l0_1.length c0_1) := yc BK259.out 1
      have hcz65_2 : wc.cell? ⟨gb259, 2, none⟩ = some (.slice A0_2 l0_2.length c0_2) := yc BK259.out 2
      have hfz65_0 := yZ BK259.out 0
      have hfz65_1 := yZ BK259.out 1
      have hfz65_2 := yZ BK259.out 2
      have hnb66 := NB260_261.out
      have hnc66 := NB261_260.out
      have hcz67_0 : wc.cell? ⟨gb260, 0, none⟩ = some (.int .i64 a1_0) := yc BK260.out 0
      have hcz67_1 : wc.cell? ⟨gb260, 1, none⟩ = some (.int .i64 a1_1) := yc BK260.out 1
      have hfz67_0 := yZ BK260.out 0
      have hfz67_1 := yZ BK260.out 1
      try go_wp2_with (first | ((with_reducible refine gate_callee (f := 47) rfl ?_); refine goesL_ (some 22) rfl rfl Try.func47 (by kernel_rfl) rfl #[.slice A0_1 l0_1.length c0_1, .agg #[.int .i64 a1_0, .int .i64 a1_1]] rfl (by (try simp only [List.map_toArray, List.map_cons, List.map_nil]); first | done | rfl | (simp only [List.length_drop, List.length_take]; rfl)) ?_; (with_reducible refine (spec_l5Within.calls kj2 _ _ l0_1 a1_0 a1_1 t264 _ ?side1 ?side2 A26.out).mono ?_); (case side1 => exact cK HR0_1.out HB.out); (case side2 => exact HC0_1.out); rintro e w68 ⟨rfl, hb⟩; refine ⟨_, rfl, ?_⟩; replace BK259 := yK BK259.out hb; replace BK260 := yK BK260.out hb; replace BK261 := yK BK261.out hb; replace HB := aM (zT (zH HB.out) hb); (try clear hb)))
      replace BK259 := aM (yD BK259.out)
      replace BK260 := aM (yD BK260.out)
      replace BK261 := aM (yD BK261.out)
      replace HB := aM (zD HB.out)
      refine start_ (n := 10) (S := fun w' => w'.cell? ⟨gb259, 0, none⟩ = some (.int .i64 a0_0) ∧ w'.cell? ⟨gb259, 1, none⟩ = some (.slice A0_1 l0_1.length c0_1) ∧ w'.cell? ⟨gb259, 2, none⟩ = some (.slice A0_2 l0_2.length c0_2) ∧ w'.cell? ⟨gb260, 0, none⟩ = some (.int .i64 a1_0) ∧ w'.cell? ⟨gb260, 1, none⟩ = some (.int .i64 a1_1)) (ds := []) #[fF,fF,fF,fF,fF,fF,fF,fF,fF,fF] (by kernel_rfl) rfl rfl ⟨yc BK259.out 0, yc BK259.out 1, yc BK259.out 2, yc BK260.out 0, yc BK260.out 1⟩ (fun hHeld => ?_); refine with_tabW spec_TakeExact.tab6 spec_TakeExact.bits6 (fun HT_ HW_ => ?_)
      generalize w68.drew = w69 at BK259 BK260 BK261 HB hHeld ⊢
      refine pure_ (i := 0) (N := some 26) (v := ?_) (a' := ?_) #[tT,fF,fF,fF,fF,fF,fF,fF,fF,fF] rfl rfl (any_of HT_.out (by kernel_rfl)) (fun _ _ _ h => h) (Or.inl ⟨by rfl, ?_⟩) ?_ ?_
      rotate_left
      ·intro w'
       go_simp
       with_reducible rfl
      rotate_left
      ·simp only [Act.put, qA, qB, qC, i64_w, i32_w]
       rfl
      refine pure_ (i := 2) (N := some 28) (v := ?_) (a' := ?_) #[tT,fF,tT,fF,fF,fF,fF,fF,fF,fF] rfl rfl (any_of HT_.out (by kernel_rfl)) (fun _ _ _ h => h) (Or.inl ⟨by rfl, ?_⟩) ?_ ?_
      rotate_left
      ·intro w'
       go_simp
       with_reducible rfl
      rotate_left
      ·simp only [Act.put, qA, qB, qC, i64_w, i32_w]
       rfl
      refine pure_ (i := 4) (N := some 30) (v := ?_) (a' := ?_) #[tT,fF,tT,fF,tT,fF,fF,fF,fF,fF] rfl rfl (any_of HT_.out (by kernel_rfl)) (fun _ _ _ h => h) (Or.inl ⟨by rfl, ?_⟩) ?_ ?_
      rotate_left
      ·intro w'
       go_simp
       with_reducible rfl
      rotate_left
      ·simp only [Act.put, qA, qB, qC, i64_w, i32_w]
       rfl
      refine take_ (i := 1) (N := some 27) (v := ?_) (a' := ?_) #[tT,tT,tT,fF,tT,fF,fF,fF,fF,fF] rfl rfl (take_ofW HT_.out HW_.out (by kernel_rfl)) (fun _ _ _ h => h) (Or.inl ⟨by rfl, ?_⟩) hHeld ?_ ?_
      rotate_left
      ·rintro w' ⟨s0, s1, s2, s3, s4⟩
       go_simp
       with_reducible rfl
      rotate_left
      ·simp only [Act.put, qA, qB, qC, i64_w, i32_w]
       rfl
      refine take_ (i := 3) (N := some 29) (v := ?_) (a' := ?_) #[tT,tT,tT,tT,tT,fF,fF,fF,fF,fF] rfl rfl (take_ofW HT_.out HW_.out (by kernel_rfl)) (fun _ _ _ h => h) (Or.inl ⟨by rfl, ?_⟩) hHeld ?_ ?_
      rotate_left
      ·rintro w' ⟨s0, s1, s2, s3, s4⟩
       go_simp
       with_reducible rfl
      rotate_left
      ·simp only [Act.put, qA, qB, qC, i64_w, i32_w]
       rfl
      refine take_ (i := 5) (N := some 31) (v := ?_) (a' := ?_) #[tT,tT,tT,tT,tT,tT,fF,fF,fF,fF] rfl rfl (take_ofW HT_.out HW_.out (by kernel_rfl)) (fun _ _ _ h => h) (Or.inl ⟨by rfl, ?_⟩) hHeld ?_ ?_
      rotate_left
      ·rintro w' ⟨s0, s1, s2, s3, s4⟩
       go_simp
       with_reducible rfl
      rotate_left
      ·simp only [Act.put, qA, qB, qC, i64_w, i32_w]
       rfl
      refine join_ (σ := Value × Value × Value × Nat) 1 #[tT,tT,tT,tT,tT,tT,tT,tT,tT,fF] (fun s_ => [(32, s_.1), (33, .agg #[.int .i64 t268, s_.2.1, s_.2.2.1]), (7, .pointer (some ⟨s_.2.2.2, 0, none⟩))]) (fun s_ w' => (w'.cell? ⟨gb259, 0, none⟩ = some (.int .i64 a0_0) ∧ w'.cell? ⟨gb259, 1, none⟩ = some (.slice A0_1 l0_1.length c0_1) ∧ w'.cell? ⟨gb259, 2, none⟩ = some (.slice A0_2 l0_2.length c0_2) ∧ w'.cell? ⟨gb260, 0, none⟩ = some (.int .i64 a1_0) ∧ w'.cell? ⟨gb260, 1, none⟩ = some (.int .i64 a1_1)) ∧ (Kd.R k49 49 w' w.heap.size (fun k_ => some k_ ≠ (s_.2.1 : Value).ownBlock ∧ some k_ ≠ (s_.2.2.1 : Value).ownBlock ∧ k_ ≠ gb260) s_.1 t265) ∧ (Kd.R k49 49 w' w.heap.size (fun k_ => some k_ ≠ (s_.1 : Value).ownBlock ∧ some k_ ≠ (s_.2.2.1 : Value).ownBlock ∧ k_ ≠ gb260) s_.2.1 t269) ∧ (Kd.R k49 49 w' w.heap.size (fun k_ => some k_ ≠ (s_.1 : Value).ownBlock ∧ some k_ ≠ (s_.2.1 : Value).ownBlock ∧ k_ ≠ gb260) s_.2.2.1 t272) ∧ (w'.heap[gb259]? = some (.cells #[.int .i64 a0_0, .slice A0_1 l0_1.length c0_1, .slice A0_2 l0_2.length c0_2] 24 (0, 0))) ∧ (w'.heap[gb260]? = some (.cells #[.int .i64 a1_0, .int .i64 a1_1] 49 (0, 0))) ∧ (w'.heap[gb261]? = some (.cells #[.int .i64 0, .slice none 0 0, .slice none 0 0] 24 (0, 0))) ∧ (w'.heap[s_.2.2.2]? = some (.cells #[.int .i64 0, .slice none 0 0, .slice none 0 0] 24 (0, 0))) ∧ (w.heap.size ≤ s_.2.2.2) ∧ (w.heap.size ≤ s_.2.2.2) ∧ (gb259 ≠ s_.2.2.2) ∧ (s_.2.2.2 ≠ gb259) ∧ (gb260 ≠ s_.2.2.2) ∧ (s_.2.2.2 ≠ gb260) ∧ (gb261 ≠ s_.2.2.2) ∧ (s_.2.2.2 ≠ gb261) ∧ (Below w.heap.size w w')) ?_ ?_
      rotate_left
      ·intro hCont
       refine two_ (i := 6) (j := 8) (Ni := some 32) (Nj := some 7) #[tT,tT,tT,tT,tT,tT,tT,fF,fF,fF] #[tT,tT,tT,tT,tT,tT,fF,fF,tT,fF] rfl rfl rfl rfl (two_of HT_.out (by kernel_rfl)) (by decide) (by decide) (fun K hK => ?_) (fun K hK => ?_)
       ·skip
        refine gS Try.func54 (by kernel_rfl) rfl #[.slice A0_1 l0_1.length c0_1, .int .i64 t264, .agg #[.int .i64 a1_0, .int .i64 a1_1]] (by rfl) rfl rfl ?_
        with_reducible refine (spec_l5Cut.calls _ _ l0_1 t264 a1_0 a1_1 t265 _ ?side1 ?side2 A35.out).mono ?_
        (case side1 => exact cK HR0_1.out HB.out)
        (case side2 => exact HC0_1.out)
        rintro e w70 ⟨v266, rfl, ho0, hb⟩
        refine ⟨_, rfl, ?_⟩
        have HO267 := aM (xL (Kd.R_newB ho0 (g := gb260) (o := .cells #[.int .i64 a1_0, .int .i64 a1_1] 49 (0, 0)) (yH BK260.out)) (zZ (zH HB.out)))
        replace BK259 := yK BK259.out hb
        replace BK260 := yK BK260.out hb
        replace BK261 := yK BK261.out hb
        replace HB := aM (zT (zH HB.out) hb)
        (try clear hb); (try clear ho0)
        obtain ⟨Ao71, co71, eo71⟩ := Kd.R_slice HO267.out
        (first | subst eo71 | obtain ⟨rfl, rfl⟩ := eI eo71)
        refine hK.out _ _ ⟨yc BK259.out 0, yc BK259.out 1, yc BK259.out 2, yc BK260.out 0, yc BK260.out 1⟩ (fun hHeld => ?_)
        clear hK K
        refine norm_ (a' := ?_) ?_ ?_
        rotate_left
        ·show Act.put _ (some 32) _ = _
         simp only [Act.put, qA, qB, qC, i64_w, i32_w]
         rfl
        refine two_ (i := 7) (j := 8) (Ni := some 33) (Nj := some 7) #[tT,tT,tT,tT,tT,tT,tT,tT,fF,fF] #[tT,tT,tT,tT,tT,tT,tT,fF,tT,fF] rfl rfl rfl rfl (two_of HT_.out (by kernel_rfl)) (by decide) (by decide) (fun K hK => ?_) (fun K hK => ?_)
        ·skip
         refine gS Try.func37 (by kernel_rfl) rfl #[.int .i64 a0_0, .slice Ao71 t265.length co71] (by rfl) rfl rfl ?_
         with_reducible refine (spec_l5Of.calls kj2 a0_0 _ _ t265 t268 t269 t272 _ ?side1 ?side2 A36.out).mono ?_
         (case side1 => repeat (first | exact (Kd.R_reads' HO267.out).2.2 | (with_reducible refine cA ?_ _) | (with_reducible refine cN ?_ _) | (with_reducible refine cD ?_)))
         (case side2 => exact (Kd.R_reads' HO267.out).2.1)
         rintro e w72 ⟨v270, v273, rfl, ho0, ho1, hb⟩
         refine ⟨_, rfl, ?_⟩
         have HO271 := aM (xL (Kd.R_newB (Kd.R_new' ho0 (Kd.R_lt (xH HO267.out))) (g := gb260) (o := .cells #[.int .i64 a1_0, .int .i64 a1_1] 49 (0, 0)) (yH BK260.out)) (zZ (zH HB.out)))
         have HO274 := aM (xL (Kd.R_newB (Kd.R_new' ho1 (Kd.R_lt (xH HO267.out))) (g := gb260) (o := .cells #[.int .i64 a1_0, .int .i64 a1_1] 49 (0, 0)) (yH BK260.out)) (zZ (zH HB.out)))
         replace HO267 := aM (xM (Kd.R_told (Kd.R_told (Kd.R_old (xH HO267.out) hb) (Kd.R_base ho0)) (Kd.R_base ho1)) (fun _ h_ => h_.1))
         replace BK259 := yK BK259.out hb
         replace BK260 := yK BK260.out hb
         replace BK261 := yK BK261.out hb
         replace HB := aM (zT (zH HB.out) hb)
         (try clear hb); (try clear ho0); (try clear ho1)
         refine hK.out _ _ ⟨yc BK259.out 0, yc BK259.out 1, yc BK259.out 2, yc BK260.out 0, yc BK260.out 1⟩ (fun hHeld => ?_)
         clear hK K
         refine norm_ (a' := ?_) ?_ ?_
         rotate_left
         ·show Act.put _ (some 33) _ = _
          simp only [Act.put, qA, qB, qC, i64_w, i32_w]
          rfl
         refine one_ (i := 8) (N := some 7) #[tT,tT,tT,tT,tT,tT,tT,tT,tT,fF] rfl rfl (one_of HT_.out (by kernel_rfl)) (by decide) (fun K hK => ?_)
         refine box_step ?hg (N := 7) ?hd (cs := #[.int .i64 0, .slice none 0 0, .slice none 0 0]) (t := 24) ?hr ?_; (case hd => rfl); (case hg => rfl); (case hr => first | (go_simp; done) | (go_simp; rfl))
         intro gb275 hg w73 hbox hb
         replace HO267 := xK HO267.out hb
         replace HO271 := xK HO271.out hb
         replace HO274 := xK HO274.out hb
         have BK275 := aM (hbox)
         have GW275 := aM ((by rw [hg]; exact (zZ (zH HB.out)) : w.heap.size ≤ gb275))
         have GE275 := aM ((by rw [hg]; exact (zZ (zH HB.out)) : w.heap.size ≤ gb275))
         replace HB := aM (zT (zH HB.out) hb)
         have NB259_275 := nL BK259.out hg
         have NB275_259 := nR BK259.out hg
         replace BK259 := yK BK259.out hb
         have NB260_275 := nL BK260.out hg
         have NB275_260 := nR BK260.out hg
         replace BK260 := yK BK260.out hb
         have NB261_275 := nL BK261.out hg
         have NB275_261 := nR BK261.out hg
         replace BK261 := yK BK261.out hb
         clear hb hbox hg
         refine hK.out _ _ ⟨yc BK259.out 0, yc BK259.out 1, yc BK259.out 2, yc BK260.out 0, yc BK260.out 1⟩ (fun hHeld => ?_)
         clear hK K
         refine norm_ (a' := ?_) ?_ ?_
         rotate_left
         ·show Act.put _ (some 7) _ = _
          simp only [Act.put, qA, qB, qC, i64_w, i32_w]
          rfl
         exact norm_ (by simp only [putAll, Act.put, qA, qB, qC]) (hCont (.slice Ao71 t265.length co71, v270, v273, gb275) _ ⟨hHeld, (xH (xM HO267.out (fun _ hk => ⟨hk.1.2, ⟨hk.2, hk.1.1.2⟩⟩))), (xH (xM HO271.out (fun _ hk => ⟨hk.1.2, ⟨hk.1.1, hk.2⟩⟩))), (xH (xM HO274.out (fun _ hk => ⟨hk.1.2, ⟨hk.1.1, hk.2⟩⟩))), (yH BK259.out), (yH BK260.out), (yH BK261.out), (yH BK275.out), GW275.out, GE275.out, NB259_275.out, NB275_259.out, NB260_275.out, NB275_260.out, NB261_275.out, NB275_261.out, (zH HB.out)⟩)
        ·skip
         refine box_step ?hg (N := 7) ?hd (cs := #[.int .i64 0, .slice none 0 0, .slice none 0 0]) (t := 24) ?hr ?_; (case hd => rfl); (case hg => rfl); (case hr => first | (go_simp; done) | (go_simp; rfl))
         intro gb275 hg w71 hbox hb
         replace HO267 := xK HO267.out hb
         have BK275 := aM (hbox)
         have GW275 := aM ((by rw [hg]; exact (zZ (zH HB.out)) : w.heap.size ≤ gb275))
         have GE275 := aM ((by rw [hg]; exact (zZ (zH HB.out)) : w.heap.size ≤ gb275))
         replace HB := aM (zT (zH HB.out) hb)
         have NB259_275 := nL BK259.out hg
         have NB275_259 := nR BK259.out hg
         replace BK259 := yK BK259.out hb
         have NB260_275 := nL BK260.out hg
         have NB275_260 := nR BK260.out hg
         replace BK260 := yK BK260.out hb
         have NB261_275 := nL BK261.out hg
         have NB275_261 := nR BK261.out hg
         replace BK261 := yK BK261.out hb
         clear hb hbox hg
         obtain ⟨Ao72, co72, eo72⟩ := Kd.R_slice HO267.out
         (first | subst eo72 | obtain ⟨rfl, rfl⟩ := eI eo72)
         refine hK.out _ _ ⟨yc BK259.out 0, yc BK259.out 1, yc BK259.out 2, yc BK260.out 0, yc BK260.out 1⟩ (fun hHeld => ?_)
         clear hK K
         refine norm_ (a' := ?_) ?_ ?_
         rotate_left
         ·show Act.put _ (some 7) _ = _
          simp only [Act.put, qA, qB, qC, i64_w, i32_w]
          rfl
         refine one_ (i := 7) (N := some 33) #[tT,tT,tT,tT,tT,tT,tT,tT,tT,fF] rfl rfl (one_of HT_.out (by kernel_rfl)) (by decide) (fun K hK => ?_)
         refine gS Try.func37 (by kernel_rfl) rfl #[.int .i64 a0_0, .slice Ao72 t265.length co72] (by rfl) rfl rfl ?_
         with_reducible refine (spec_l5Of.calls kj2 a0_0 _ _ t265 t268 t269 t272 _ ?side1 ?side2 A36.out).mono ?_
         (case side1 => repeat (first | exact (Kd.R_reads' HO267.out).2.2 | (with_reducible refine cA ?_ _) | (with_reducible refine cN ?_ _) | (with_reducible refine cD ?_)))
         (case side2 => exact (Kd.R_reads' HO267.out).2.1)
         rintro e w73 ⟨v270, v273, rfl, ho0, ho1, hb⟩
         refine ⟨_, rfl, ?_⟩
         have HO271 := aM (xL (Kd.R_newB (Kd.R_new' ho0 (Kd.R_lt (xH HO267.out))) (g := gb260) (o := .cells #[.int .i64 a1_0, .int .i64 a1_1] 49 (0, 0)) (yH BK260.out)) (zZ (zH HB.out)))
         have HO274 := aM (xL (Kd.R_newB (Kd.R_new' ho1 (Kd.R_lt (xH HO267.out))) (g := gb260) (o := .cells #[.int .i64 a1_0, .int .i64 a1_1] 49 (0, 0)) (yH BK260.out)) (zZ (zH HB.out)))
         replace HO267 := aM (xM (Kd.R_told (Kd.R_told (Kd.R_old (xH HO267.out) hb) (Kd.R_base ho0)) (Kd.R_base ho1)) (fun _ h_ => h_.1))
         replace BK259 := yK BK259.out hb
         replace BK260 := yK BK260.out hb
         replace BK261 := yK BK261.out hb
         replace BK275 := yK BK275.out hb
         replace HB := aM (zT (zH HB.out) hb)
         (try clear hb); (try clear ho0); (try clear ho1)
         refine hK.out _ _ ⟨yc BK259.out 0, yc BK259.out 1, yc BK259.out 2, yc BK260.out 0, yc BK260.out 1⟩ (fun hHeld => ?_)
         clear hK K
         refine norm_ (a' := ?_) ?_ ?_
         rotate_left
         ·show Act.put _ (some 33) _ = _
          simp only [Act.put, qA, qB, qC, i64_w, i32_w]
          rfl
         exact norm_ (by simp only [putAll, Act.put, qA, qB, qC]) (hCont (.slice Ao72 t265.length co72, v270, v273, gb275) _ ⟨hHeld, (xH (xM HO267.out (fun _ hk => ⟨hk.1.2, ⟨hk.2, hk.1.1.2⟩⟩))), (xH (xM HO271.out (fun _ hk => ⟨hk.1.2, ⟨hk.1.1, hk.2⟩⟩))), (xH (xM HO274.out (fun _ hk => ⟨hk.1.2, ⟨hk.1.1, hk.2⟩⟩))), (yH BK259.out), (yH BK260.out), (yH BK261.out), (yH BK275.out), GW275.out, GE275.out, NB259_275.out, NB275_259.out, NB260_275.out, NB275_260.out, NB261_275.out, NB275_261.out, (zH HB.out)⟩)
       ·skip
        refine box_step ?hg (N := 7) ?hd (cs := #[.int .i64 0, .slice none 0 0, .slice none 0 0]) (t := 24) ?hr ?_; (case hd => rfl); (case hg => rfl); (case hr => first | (go_simp; done) | (go_simp; rfl))
        intro gb275 hg w70 hbox hb
        have BK275 := aM (hbox)
        have GW275 := aM ((by rw [hg]; exact (zZ (zH HB.out)) : w.heap.size ≤ gb275))
        have GE275 := aM ((by rw [hg]; exact (zZ (zH HB.out)) : w.heap.size ≤ gb275))
        replace HB := aM (zT (zH HB.out) hb)
        have NB259_275 := nL BK259.out hg
        have NB275_259 := nR BK259.out hg
        replace BK259 := yK BK259.out hb
        have NB260_275 := nL BK260.out hg
        have NB275_260 := nR BK260.out hg
        replace BK260 := yK BK260.out hb
        have NB261_275 := nL BK261.out hg
        have NB275_261 := nR BK261.out hg
        replace BK261 := yK BK261.out hb
        clear hb hbox hg
        refine hK.out _ _ ⟨yc BK259.out 0, yc BK259.out 1, yc BK259.out 2, yc BK260.out 0, yc BK260.out 1⟩ (fun hHeld => ?_)
        clear hK K
        refine norm_ (a' := ?_) ?_ ?_
        rotate_left
        ·show Act.put _ (some 7) _ = _
         simp only [Act.put, qA, qB, qC, i64_w, i32_w]
         rfl
        refine one_ (i := 6) (N := some 32) #[tT,tT,tT,tT,tT,tT,tT,fF,tT,fF] rfl rfl (one_of HT_.out (by kernel_rfl)) (by decide) (fun K hK => ?_)
        refine gS Try.func54 (by kernel_rfl) rfl #[.slice A0_1 l0_1.length c0_1, .int .i64 t264, .agg #[.int .i64 a1_0, .int .i64 a1_1]] (by rfl) rfl rfl ?_
        with_reducible refine (spec_l5Cut.calls _ _ l0_1 t264 a1_0 a1_1 t265 _ ?side1 ?side2 A35.out).mono ?_
        (case side1 => exact cK HR0_1.out HB.out)
        (case side2 => exact HC0_1.out)
        rintro e w71 ⟨v266, rfl, ho0, hb⟩
        refine ⟨_, rfl, ?_⟩
        have HO267 := aM (xL (Kd.R_newB ho0 (g := gb260) (o := .cells #[.int .i64 a1_0, .int .i64 a1_1] 49 (0, 0)) (yH BK260.out)) (zZ (zH HB.out)))
        replace BK259 := yK BK259.out hb
        replace BK260 := yK BK260.out hb
        replace BK261 := yK BK261.out hb
        replace BK275 := yK BK275.out hb
        replace HB := aM (zT (zH HB.out) hb)
        (try clear hb); (try clear ho0)
        obtain ⟨Ao72, co72, eo72⟩ := Kd.R_slice HO267.out
        (first | subst eo72 | obtain ⟨rfl, rfl⟩ := eI eo72)
        refine hK.out _ _ ⟨yc BK259.out 0, yc BK259.out 1, yc BK259.out 2, yc BK260.out 0, yc BK260.out 1⟩ (fun hHeld => ?_)
        clear hK K
        refine norm_ (a' := ?_) ?_ ?_
        rotate_left
        ·show Act.put _ (some 32) _ = _
         simp only [Act.put, qA, qB, qC, i64_w, i32_w]
         rfl
        refine one_ (i := 7) (N := some 33) #[tT,tT,tT,tT,tT,tT,tT,tT,tT,fF] rfl rfl (one_of HT_.out (by kernel_rfl)) (by decide) (fun K hK => ?_)
        refine gS Try.func37 (by kernel_rfl) rfl #[.int .i64 a0_0, .slice Ao72 t265.length co72] (by rfl) rfl rfl ?_
        with_reducible refine (spec_l5Of.calls kj2 a0_0 _ _ t265 t268 t269 t272 _ ?side1 ?side2 A36.out).mono ?_
        (case side1 => repeat (first | exact (Kd.R_reads' HO267.out).2.2 | (with_reducible refine cA ?_ _) | (with_reducible refine cN ?_ _) | (with_reducible refine cD ?_)))
        (case side2 => exact (Kd.R_reads' HO267.out).2.1)
        rintro e w73 ⟨v270, v273, rfl, ho0, ho1, hb⟩
        refine ⟨_, rfl, ?_⟩
        have HO271 := aM (xL (Kd.R_newB (Kd.R_new' ho0 (Kd.R_lt (xH HO267.out))) (g := gb260) (o := .cells #[.int .i64 a1_0, .int .i64 a1_1] 49 (0, 0)) (yH BK260.out)) (zZ (zH HB.out)))
        have HO274 := aM (xL (Kd.R_newB (Kd.R_new' ho1 (Kd.R_lt (xH HO267.out))) (g := gb260) (o := .cells #[.int .i64 a1_0, .int .i64 a1_1] 49 (0, 0)) (yH BK260.out)) (zZ (zH HB.out)))
        replace HO267 := aM (xM (Kd.R_told (Kd.R_told (Kd.R_old (xH HO267.out) hb) (Kd.R_base ho0)) (Kd.R_base ho1)) (fun _ h_ => h_.1))
        replace BK259 := yK BK259.out hb
        replace BK260 := yK BK260.out hb
        replace BK261 := yK BK261.out hb
        replace BK275 := yK BK275.out hb
        replace HB := aM (zT (zH HB.out) hb)
        (try clear hb); (try clear ho0); (try clear ho1)
        refine hK.out _ _ ⟨yc BK259.out 0, yc BK259.out 1, yc BK259.out 2, yc BK260.out 0, yc BK260.out 1⟩ (fun hHeld => ?_)
        clear hK K
        refine norm_ (a' := ?_) ?_ ?_
        rotate_left
        ·show Act.put _ (some 33) _ = _
         simp only [Act.put, qA, qB, qC, i64_w, i32_w]
         rfl
        exact norm_ (by simp only [putAll, Act.put, qA, qB, qC]) (hCont (.slice Ao72 t265.length co72, v270, v273, gb275) _ ⟨hHeld, (xH (xM HO267.out (fun _ hk => ⟨hk.1.2, ⟨hk.2, hk.1.1.2⟩⟩))), (xH (xM HO271.out (fun _ hk => ⟨hk.1.2, ⟨hk.1.1, hk.2⟩⟩))), (xH (xM HO274.out (fun _ hk => ⟨hk.1.2, ⟨hk.1.1, hk.2⟩⟩))), (yH BK259.out), (yH BK260.out), (yH BK261.out), (yH BK275.out), GW275.out, GE275.out, NB259_275.out, NB275_259.out, NB260_275.out, NB275_260.out, NB261_275.out, NB275_261.out, (zH HB.out)⟩)
      rintro ⟨v266, v270, v273, gb275⟩ w74 ⟨hS_, h0_, h1_, h2_, h3_, h4_, h5_, h6_, h7_, h8_, h9_, h10_, h11_, h12_, h13_, h14_, h15_⟩
      (try dsimp only at h0_ h1_ h2_ h3_ h4_ h5_ h6_ h7_ h8_ h9_ h10_ h11_ h12_ h13_ h14_ h15_)
      have n0_ := aM h0_
      have n1_ := aM h1_
      have n2_ := aM h2_
      have n3_ := aM h3_
      have n4_ := aM h4_
      have n5_ := aM h5_
      have n6_ := aM h6_
      have n7_ := aM h7_
      have n8_ := aM h8_
      have n9_ := aM h9_
      have n10_ := aM h10_
      have n11_ := aM h11_
      have n12_ := aM h12_
      have n13_ := aM h13_
      have n14_ := aM h14_
      have n15_ := aM h15_
      clear BK259 BK260 BK261 HB h0_ h1_ h2_ h3_ h4_ h5_ h6_ h7_ h8_ h9_ h10_ h11_ h12_ h13_ h14_ h15_
      have HO267 := n0_
      have HO271 := n1_
      have HO274 := n2_
      have BK259 := n3_
      have BK260 := n4_
      have BK261 := n5_
      have BK275 := n6_
      have GW275 := n7_
      have GE275 := n8_
      have NB259_275 := n9_
      have NB275_259 := n10_
      have NB260_275 := n11_
      have NB275_260 := n12_
      have NB261_275 := n13_
      have NB275_261 := n14_
      have HB := n15_
      clear n0_ n1_ n2_ n3_ n4_ n5_ n6_ n7_ n8_ n9_ n10_ n11_ n12_ n13_ n14_ n15_
      have hHeld : w74.cell? ⟨gb259, 0, none⟩ = some (.int .i64 a0_0) ∧ w74.cell? ⟨gb259, 1, none⟩ = some (.slice A0_1 l0_1.length c0_1) ∧ w74.cell? ⟨gb259, 2, none⟩ = some (.slice A0_2 l0_2.length c0_2) ∧ w74.cell? ⟨gb260, 0, none⟩ = some (.int .i64 a1_0) ∧ w74.cell? ⟨gb260, 1, none⟩ = some (.int .i64 a1_1) := hS_
      obtain ⟨Ao76, co76, eo76⟩ := Kd.R_slice HO271.out
      (first | subst eo76 | obtain ⟨rfl, rfl⟩ := eI eo76)
      obtain ⟨Ao78, co78, eo78⟩ := Kd.R_slice HO274.out
      (first | subst eo78 | obtain ⟨rfl, rfl⟩ := eI eo78)
      refine norm_ (a' := ?_) ?_ ?_
      rotate_left
      ·simp only [putAll, Act.put, qA, qB, qC]
       rfl
      refine one_ (i := 9) (N := none) #[tT,tT,tT,tT,tT,tT,tT,tT,tT,tT] rfl rfl (one_of HT_.out (by kernel_rfl)) (by decide) (fun K hK => ?_)
      have hs75 : w74.cell? ⟨gb275, 0, none⟩ = some (.int .i64 0) := yc BK275.out 0
      have hfs75 := yZ BK275.out 0
      have hns75_0 := NB259_275.out
      have hns75_1 := NB260_275.out
      have hns75_2 := NB261_275.out
      have hms75_0 := NB275_259.out
      have hms75_1 := NB275_260.out
      have hms75_2 := NB275_261.out
      have hs77 : w74.cell? ⟨gb275, 1, none⟩ = some (.slice none 0 0) := yc BK275.out 1
      have hfs77 := yZ BK275.out 1
      have hns77_0 := NB259_275.out
      have hns77_1 := NB260_275.out
      have hns77_2 := NB261_275.out
      have hms77_0 := NB275_259.out
      have hms77_1 := NB275_260.out
      have hms77_2 := NB275_261.out
      have hs79 : w74.cell? ⟨gb275, 2, none⟩ = some (.slice none 0 0) := yc BK275.out 2
      have hfs79 := yZ BK275.out 2
      have hns79_0 := NB259_275.out
      have hns79_1 := NB260_275.out
      have hns79_2 := NB261_275.out
      have hms79_0 := NB275_259.out
      have hms79_1 := NB275_260.out
      have hms79_2 := NB275_261.out
      refine skip_ (w1 := ?_) (by rfl) rfl ?_ ?_
      rotate_left
      ·go_simp
       rfl
      refine hK.out _ _ ⟨((cell_far (p := ⟨gb275, _, none⟩) NB259_275.out _).trans (((cell_far (p := ⟨gb275, _, none⟩) NB259_275.out _).trans (((cell_far (p := ⟨gb275, _, none⟩) NB259_275.out _).trans (hHeld.1)))))), ((cell_far (p := ⟨gb275, _, none⟩) NB259_275.out _).trans (((cell_far (p := ⟨gb275, _, none⟩) NB259_275.out _).trans (((cell_far (p := ⟨gb275, _, none⟩) NB259_275.out _).trans (hHeld.2.1)))))), ((cell_far (p := ⟨gb275, _, none⟩) NB259_275.out _).trans (((cell_far (p := ⟨gb275, _, none⟩) NB259_275.out _).trans (((cell_far (p := ⟨gb275, _, none⟩) NB259_275.out _).trans (hHeld.2.2.1)))))), ((cell_far (p := ⟨gb275, _, none⟩) NB260_275.out _).trans (((cell_far (p := ⟨gb275, _, none⟩) NB260_275.out _).trans (((cell_far (p := ⟨gb275, _, none⟩) NB260_275.out _).trans (hHeld.2.2.2.1)))))), ((cell_far (p := ⟨gb275, _, none⟩) NB260_275.out _).trans (((cell_far (p := ⟨gb275, _, none⟩) NB260_275.out _).trans (((cell_far (p := ⟨gb275, _, none⟩) NB260_275.out _).trans (hHeld.2.2.2.2))))))⟩ (fun hHeld => ?_)
      clear hK K
      refine done_ (done_of HT_.out (by kernel_rfl)) ?_
      have hnb80 := NB275_259.out
      have hnc80 := NB259_275.out
      have hnb81 := NB275_260.out
      have hnc81 := NB260_275.out
      have hnb82 := NB275_261.out
      have hnc82 := NB261_275.out
      have hcz83_0 : w74.cell? ⟨gb275, 0, none⟩ = some (.int .i64 0) := yc BK275.out 0
      have hcz83_1 : w74.cell? ⟨gb275, 1, none⟩ = some (.slice none 0 0) := yc BK275.out 1
      have hcz83_2 : w74.cell? ⟨gb275, 2, none⟩ = some (.slice none 0 0) := yc BK275.out 2
      have hfz83_0 := yZ BK275.out 0
      have hfz83_1 := yZ BK275.out 1
      have hfz83_2 := yZ BK275.out 2
      try go_wp2_with (first | ((with_reducible refine gate_callee (f := 17) rfl ?_); refine goesL_ (some 35) rfl rfl Try.func17 (by kernel_rfl) rfl #[.agg #[.int .i64 t268, .slice Ao76 t269.length co76, .slice Ao78 t272.length co78]] rfl (by (try simp only [List.map_toArray, List.map_cons, List.map_nil]); first | done | rfl | (simp only [List.length_drop, List.length_take]; rfl)) ?_; (with_reducible refine (spec_GoodFree.calls kj2 t268 _ _ t269 _ _ t272 false _ ?side1 ?side2 ?side3 ?side4 A37.out).mono ?_); (case side1 => exact rC (n := t269.length) (c := co76) ((x3 HO271.out BK275.out (by decide) (.int .i64 t268) (.slice Ao76 t269.length co76) (.slice Ao78 t272.length co78)))); (case side2 => exact (Kd.R_reads' HO271.out).2.1); (case side3 => exact rC (n := t272.length) (c := co78) ((x3 HO274.out BK275.out (by decide) (.int .i64 t268) (.slice Ao76 t269.length co76) (.slice Ao78 t272.length co78)))); (case side4 => exact (Kd.R_reads' HO274.out).2.1); rintro e w84 ⟨rfl, hb⟩; refine ⟨_, rfl, ?_⟩; replace HO267 := aM (xB (xH ((x3 HO267.out BK275.out (by decide) (.int .i64 t268) (.slice Ao76 t269.length co76) (.slice Ao78 t272.length co78)))) hb); replace HO271 := aM (xB (xH ((x3 HO271.out BK275.out (by decide) (.int .i64 t268) (.slice Ao76 t269.length co76) (.slice Ao78 t272.length co78)))) hb); replace HO274 := aM (xB (xH ((x3 HO274.out BK275.out (by decide) (.int .i64 t268) (.slice Ao76 t269.length co76) (.slice Ao78 t272.length co78)))) hb); replace BK259 := aM (yB (g := gb259) (o := .cells #[.int .i64 a0_0, .slice A0_1 l0_1.length c0_1, .slice A0_2 l0_2.length c0_2] 24 (0, 0)) (by (with_reducible repeat (first | refine yN ?_ _ | refine yD ?_ | refine yA ?_ _)); refine yF ?_ NB259_275.out _; (with_reducible repeat (first | refine yN ?_ _ | refine yD ?_ | refine yA ?_ _)); refine yF ?_ NB259_275.out _; (with_reducible repeat (first | refine yN ?_ _ | refine yD ?_ | refine yA ?_ _)); refine yF ?_ NB259_275.out _; (with_reducible repeat (first | refine yN ?_ _ | refine yD ?_ | refine yA ?_ _)); exact BK259.out) hb); replace BK260 := aM (yB (g := gb260) (o := .cells #[.int .i64 a1_0, .int .i64 a1_1] 49 (0, 0)) (by (with_reducible repeat (first | refine yN ?_ _ | refine yD ?_ | refine yA ?_ _)); refine yF ?_ NB260_275.out _; (with_reducible repeat (first | refine yN ?_ _ | refine yD ?_ | refine yA ?_ _)); refine yF ?_ NB260_275.out _; (with_reducible repeat (first | refine yN ?_ _ | refine yD ?_ | refine yA ?_ _)); refine yF ?_ NB260_275.out _; (with_reducible repeat (first | refine yN ?_ _ | refine yD ?_ | refine yA ?_ _)); exact BK260.out) hb); replace BK261 := aM (yB (g := gb261) (o := .cells #[.int .i64 0, .slice none 0 0, .slice none 0 0] 24 (0, 0)) (by (with_reducible repeat (first | refine yN ?_ _ | refine yD ?_ | refine yA ?_ _)); refine yF ?_ NB261_275.out _; (with_reducible repeat (first | refine yN ?_ _ | refine yD ?_ | refine yA ?_ _)); refine yF ?_ NB261_275.out _; (with_reducible repeat (first | refine yN ?_ _ | refine yD ?_ | refine yA ?_ _)); refine yF ?_ NB261_275.out _; (with_reducible repeat (first | refine yN ?_ _ | refine yD ?_ | refine yA ?_ _)); exact BK261.out) hb); replace BK275 := aM (yB (g := gb275) (o := .cells #[.int .i64 t268, .slice Ao76 t269.length co76, .slice Ao78 t272.length co78] 24 (0, 0)) (by (with_reducible repeat (first | refine yN ?_ _ | refine yD ?_ | refine yA ?_ _)); refine yP (cs := #[.int .i64 t268, .slice Ao76 t269.length co76, .slice none 0 0]) ?_ 2 _ rfl; (with_reducible repeat (first | refine yN ?_ _ | refine yD ?_ | refine yA ?_ _)); refine yP (cs := #[.int .i64 t268, .slice none 0 0, .slice none 0 0]) ?_ 1 _ rfl; (with_reducible repeat (first | refine yN ?_ _ | refine yD ?_ | refine yA ?_ _)); refine yP (cs := #[.int .i64 0, .slice none 0 0, .slice none 0 0]) ?_ 0 _ rfl; (with_reducible repeat (first | refine yN ?_ _ | refine yD ?_ | refine yA ?_ _)); exact BK275.out) hb); replace HB := aM (zT (zH HB.out) hb); (try clear hb); have hcz85_0 : w84.cell? ⟨gb261, 0, none⟩ = some (.int .i64 0) := yc BK261.out 0; have hcz85_1 : w84.cell? ⟨gb261, 1, none⟩ = some (.slice none 0 0) := yc BK261.out 1; have hcz85_2 : w84.cell? ⟨gb261, 2, none⟩ = some (.slice none 0 0) := yc BK261.out 2; have hfz85_0 := yZ BK261.out 0; have hfz85_1 := yZ BK261.out 1; have hfz85_2 := yZ BK261.out 2))
      refine bodyPost_ret (results_ct rfl _ _ gb261 24 #[.int .i64 0, .slice none 0 0, .slice none 0 0] (0, 0) _ rfl (by (with_reducible repeat (first | refine yN ?_ _ | refine yD ?_ | refine yA ?_ _)); refine yP (cs := #[.int .i64 0, .slice none 0 0, .slice none 0 0]) ?_ 2 _ rfl; (with_reducible repeat (first | refine yN ?_ _ | refine yD ?_ | refine yA ?_ _)); refine yP (cs := #[.int .i64 0, .slice none 0 0, .slice none 0 0]) ?_ 1 _ rfl; (with_reducible repeat (first | refine yN ?_ _ | refine yD ?_ | refine yA ?_ _)); refine yP (cs := #[.int .i64 0, .slice none 0 0, .slice none 0 0]) ?_ 0 _ rfl; (with_reducible repeat (first | refine yN ?_ _ | refine yD ?_ | refine yA ?_ _)); exact BK261.out) Try.underlying24 rfl (by kernel_rfl)) rfl ?_
      exact ⟨_, _, by first | rfl | (simp [errW_none, errW_some] <;> rfl) | (simp [*, errW_none, errW_some] <;> rfl), by first | exact Kd.R_nil _ _ _ _ _ | exact Kd.N_nil _ _ _ _ _ | exact Kd.V_nil _ _ _ _ _ | exact Kd.Q_nil _ _ _ _ _ | exact Kd.S_nil _ _ _ _ _, by first | exact Kd.R_nil _ _ _ _ _ | exact Kd.N_nil _ _ _ _ _ | exact Kd.V_nil _ _ _ _ _ | exact Kd.Q_nil _ _ _ _ _ | exact Kd.S_nil _ _ _ _ _, zH HB.out⟩

end Go.Proofs.Ytfhfaeeokibhaaa.PFnExactTakeExact
