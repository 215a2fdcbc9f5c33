/- The walks of FnExactTakeBlock: Go's calls come to what the Lean functions beside them say; no condition. -/
import Derived.Test.YtbjcioihomeikaaQFnExactTakeBlockx0
import Derived.Test.YtbjcioihomeikaaQFnExactTakeBlockx8
import Derived.Test.YtbjcioihomeikaaQFnExactTakeBlockx9
import Derived.Test.YtbjcioihomeikaaQFnExactTakeBlockx10
import Derived.Test.YtbjcioihomeikaaQFnExactTakeBlockx11
namespace Go.Proofs.Ytbjcioihomeikaa.PFnExactTakeBlock
open Go.RowKit Go.Proofs.YtbjcioihomeikaaW.PrintWords Go.Proofs.YtbjcioihomeikaaW.PrintLast Go.Proofs.YtbjcioihomeikaaW.PrintMore
attribute [local go_sem] max2_int min2_int max_two min_two max_three min_three max_four min_four   -- for this text's walks alone
set_option linter.unusedVariables false
set_option linter.unusedSimpArgs false
set_option maxRecDepth 100000

/-! ### impl_TakeBlock: function 16 -/
mutual
def impl_TakeBlock.j0 : Nat → Int → Bool → Int → List (S45) → List (S45) → Option (Int × (List (S45)) × (List (S45)) × Int × Bool)
 | 0, _, _, _, _, _ => none
 | k + 1, x1, x21, x283000, x283001, x283002 => if x21 = true then (some (0, ([] : List (S45)), ([] : List (S45)), 0, false)) else (impl_TakeBlock.l0 k x1 (-1) x283001 (x283001.length : Int) 0 x283000 x283001 x283002)
def impl_TakeBlock.l0 : Nat → Int → Int → List (S45) → Int → Int → Int → List (S45) → List (S45) → Option (Int × (List (S45)) × (List (S45)) × Int × Bool)
 | 0, _, _, _, _, _, _, _, _ => none
 | k + 1, x1, x7, x24, x25, x26, x283000, x283001, x283002 => if x26 < x25 then (if 0 ≤ x26 then (if x26 < (x24.length : Int) then (if ((rd_T45 x24 x26).f1) ≥ x1 then (if x7 < 0 then (impl_TakeBlock.l0 k x1 x26 x24 x25 (wrap64 (x26 + 1)) x283000 x283001 x283002) else (if 0 ≤ x7 then (if x7 < (x283001.length : Int) then (if ((rd_T45 x24 x26).f1) < ((rd_T45 x283001 x7).f1) then (impl_TakeBlock.l0 k x1 x26 x24 x25 (wrap64 (x26 + 1)) x283000 x283001 x283002) else (impl_TakeBlock.l0 k x1 x7 x24 x25 (wrap64 (x26 + 1)) x283000 x283001 x283002)) else (none)) else (none))) else (impl_TakeBlock.l0 k x1 x7 x24 x25 (wrap64 (x26 + 1)) x283000 x283001 x283002)) else (none)) else (none)) else (if x7 < 0 then (some (0, ([] : List (S45)), ([] : List (S45)), 0, false)) else (if 0 ≤ x7 then (if x7 < (x283001.length : Int) then ((impl_lacking.f x283001 ((rd_T45 x283001 x7).f0) ((rd_T45 x283001 x7).f1)).bind fun t291 => (impl_TakeBlock.l1 k x1 x283000 x283001 x283002 ((rd_T45 x283001 x7).f0) ((rd_T45 x283001 x7).f1) x283000 t291)) else (none)) else (none)))
def impl_TakeBlock.l1 : Nat → Int → Int → List (S45) → List (S45) → Int → Int → Int → List (S45) → Option (Int × (List (S45)) × (List (S45)) × Int × Bool)
 | 0, _, _, _, _, _, _, _, _ => none
 | k + 1, x1, x283000, x283001, x283002, x291000, x291001, x295000, x295001 => if x291001 > x1 then ((impl_Block_buddy.f x291000 (wrap64 (x291001 - 1))).bind fun bt295 => ((impl_with.f x295001 bt295.1 bt295.2).bind fun t297 => (impl_TakeBlock.l1 k x1 x283000 x283001 x283002 x291000 (wrap64 (x291001 - 1)) x295000 t297))) else ((impl_with.f x283002 x291000 x291001).bind fun t300 => (some (x295000, x295001, t300, x291000, true)))
end
def impl_TakeBlock.f (k : Nat) (a0_0 : Int) (l0_1 : List (S45)) (l0_2 : List (S45)) (a1 : Int) : Option (Int × (List (S45)) × (List (S45)) × Int × Bool) := (impl_GoodBuddy.f k a0_0 l0_1 l0_2).bind fun t284 => (if t284 = true then ((impl_within.f a1 0 a0_0).bind fun t285 => (impl_TakeBlock.j0 k a1 (!t285) a0_0 l0_1 l0_2)) else (impl_TakeBlock.j0 k a1 true a0_0 l0_1 l0_2))
theorem impl_TakeBlock.mono_l : ∀ k, (∀ y0 y1 y2 y3 y4, LeO (impl_TakeBlock.j0 k y0 y1 y2 y3 y4) (impl_TakeBlock.j0 (k + 1) y0 y1 y2 y3 y4)) ∧ (∀ y0 y1 y2 y3 y4 y5 y6 y7, LeO (impl_TakeBlock.l0 k y0 y1 y2 y3 y4 y5 y6 y7) (impl_TakeBlock.l0 (k + 1) y0 y1 y2 y3 y4 y5 y6 y7)) ∧ (∀ y0 y1 y2 y3 y4 y5 y6 y7, LeO (impl_TakeBlock.l1 k y0 y1 y2 y3 y4 y5 y6 y7) (impl_TakeBlock.l1 (k + 1) y0 y1 y2 y3 y4 y5 y6 y7))
 | 0 => ⟨fun _ _ _ _ _ r h => by simp [impl_TakeBlock.j0] at h, fun _ _ _ _ _ _ _ _ r h => by simp [impl_TakeBlock.l0] at h, fun _ _ _ _ _ _ _ _ r h => by simp [impl_TakeBlock.l1] at h⟩
 | k + 1 => by
  obtain ⟨ih0, ih1, ih2⟩ := impl_TakeBlock.mono_l k
  refine ⟨?_, ?_, ?_⟩
  ·intro y0 y1 y2 y3 y4
   unfold impl_TakeBlock.j0
   repeat' first
   | (with_reducible exact ih0 _ _ _ _ _)
   | (with_reducible exact ih1 _ _ _ _ _ _ _ _)
   | (with_reducible exact ih2 _ _ _ _ _ _ _ _)
   | (with_reducible exact impl_GoodBuddy.mono _ _ _ _)
   | (with_reducible exact LeO.refl _)
   | (with_reducible exact LeO.none _)
   | (with_reducible refine LeO.ite ?_ ?_)
   | (with_reducible refine LeO.bind ?_ (fun _ => ?_))
   | exact ih0 _ _ _ _ _
   | exact ih1 _ _ _ _ _ _ _ _
   | exact ih2 _ _ _ _ _ _ _ _
   | exact impl_GoodBuddy.mono _ _ _ _
   | exact LeO.none _
   | refine LeO.ite ?_ ?_
   | refine LeO.bind ?_ (fun _ => ?_)
  ·intro y0 y1 y2 y3 y4 y5 y6 y7
   unfold impl_TakeBlock.l0
   repeat' first
   | (with_reducible exact ih0 _ _ _ _ _)
   | (with_reducible exact ih1 _ _ _ _ _ _ _ _)
   | (with_reducible exact ih2 _ _ _ _ _ _ _ _)
   | (with_reducible exact impl_GoodBuddy.mono _ _ _ _)
   | (with_reducible exact LeO.refl _)
   | (with_reducible exact LeO.none _)
   | (with_reducible refine LeO.ite ?_ ?_)
   | (with_reducible refine LeO.bind ?_ (fun _ => ?_))
   | exact ih0 _ _ _ _ _
   | exact ih1 _ _ _ _ _ _ _ _
   | exact ih2 _ _ _ _ _ _ _ _
   | exact impl_GoodBuddy.mono _ _ _ _
   | exact LeO.none _
   | refine LeO.ite ?_ ?_
   | refine LeO.bind ?_ (fun _ => ?_)
  ·intro y0 y1 y2 y3 y4 y5 y6 y7
   unfold impl_TakeBlock.l1
   repeat' first
   | (with_reducible exact ih0 _ _ _ _ _)
   | (with_reducible exact ih1 _ _ _ _ _ _ _ _)
   | (with_reducible exact ih2 _ _ _ _ _ _ _ _)
   | (with_reducible exact impl_GoodBuddy.mono _ _ _ _)
   | (with_reducible exact LeO.refl _)
   | (with_reducible exact LeO.none _)
   | (with_reducible refine LeO.ite ?_ ?_)
   | (with_reducible refine LeO.bind ?_ (fun _ => ?_))
   | exact ih0 _ _ _ _ _
   | exact ih1 _ _ _ _ _ _ _ _
   | exact ih2 _ _ _ _ _ _ _ _
   | exact impl_GoodBuddy.mono _ _ _ _
   | exact LeO.none _
   | refine LeO.ite ?_ ?_
   | refine LeO.bind ?_ (fun _ => ?_)
theorem impl_TakeBlock.mono : ∀ a0 a1 a2 a3 k, LeO (impl_TakeBlock.f k a0 a1 a2 a3) (impl_TakeBlock.f (k + 1) a0 a1 a2 a3) := by
 intro a0 a1 a2 a3 k
 obtain ⟨ih0, ih1, ih2⟩ := impl_TakeBlock.mono_l k
 unfold impl_TakeBlock.f
 repeat' first
   | (with_reducible exact ih0 _ _ _ _ _)
   | (with_reducible exact ih1 _ _ _ _ _ _ _ _)
   | (with_reducible exact ih2 _ _ _ _ _ _ _ _)
   | (with_reducible exact impl_GoodBuddy.mono _ _ _ _)
   | (with_reducible exact LeO.refl _)
   | (with_reducible exact LeO.none _)
   | (with_reducible refine LeO.ite ?_ ?_)
   | (with_reducible refine LeO.bind ?_ (fun _ => ?_))
   | exact ih0 _ _ _ _ _
   | exact ih1 _ _ _ _ _ _ _ _
   | exact ih2 _ _ _ _ _ _ _ _
   | exact impl_GoodBuddy.mono _ _ _ _
   | exact LeO.none _
   | refine LeO.ite ?_ ?_
   | refine LeO.bind ?_ (fun _ => ?_)
def impl_TakeBlock.T7 : Bool × List (List Nat × List Nat) := (true, [([], []), ([0], [0]), ([], []), ([1, 2], [1, 2]), ([3], [3]), ([4], [4]), ([5, 4], [4, 5]), ([6, 4, 4], [4, 6]), ([7], [7]), ([8, 7], [7, 8]), ([7], [7]), ([10, 7], [7, 10]), ([7], [7]), ([11, 12, 7], [7, 11, 12]), ([13, 7], [7, 13]), ([14, 7], [7, 14]), ([9, 15, 7], [7, 9, 15]), ([7, 16, 4], [4, 7, 16]), ([4, 17], [4, 17])])
def impl_TakeBlock.B7 : List Nat := [0, 1, 0, 7, 15, 31, 63, 127, 255, 511, 255, 1279, 255, 7423, 15615, 31999, 65535, 131071, 262143]
theorem impl_TakeBlock.tab7 : rtab .any (opsOf Try.f16 7) = impl_TakeBlock.T7 := by kernel_rfl
theorem impl_TakeBlock.bits7 : waitsOk impl_TakeBlock.T7.2 impl_TakeBlock.B7 = true := by kernel_rfl
def impl_TakeBlock.T13 : Bool × List (List Nat × List Nat) := (true, [([], []), ([0], [0]), ([], []), ([2], [2]), ([], []), ([3, 4], [3, 4]), ([1, 5], [1, 5]), ([], []), ([7, 6, 5, 0, 1, 2, 3, 4, 5, 6, 7], [6, 7])])
def impl_TakeBlock.B13 : List Nat := [0, 1, 0, 4, 0, 28, 63, 0, 255]
theorem impl_TakeBlock.tab13 : rtab .any (opsOf Try.f16 13) = impl_TakeBlock.T13 := by kernel_rfl
theorem impl_TakeBlock.bits13 : waitsOk impl_TakeBlock.T13.2 impl_TakeBlock.B13 = true := by kernel_rfl
set_option maxHeartbeats 8000000 in
set_option maxRecDepth 100000 in
theorem impl_TakeBlock.calls (k : Nat) (a0_0 : Int) (A0_1 : Option Addr) (c0_1 : Nat) (l0_1 : List (S45)) (A0_2 : Option Addr) (c0_2 : Nat) (l0_2 : List (S45)) (a1 : Int) (r1 : Int) (r2 : List (S45)) (r3 : List (S45)) (r4 : Int) (r5 : Bool) (w : World) (hr0_1 : Kd.C k45 w A0_1 l0_1.length l0_1) (hc0_1 : l0_1.length ≤ c0_1) (hr0_2 : Kd.C k45 w A0_2 l0_2.length l0_2) (hc0_2 : l0_2.length ≤ c0_2) (h : impl_TakeBlock.f k a0_0 l0_1 l0_2 a1 = some (r1, r2, r3, r4, r5)) :
  Calls Try.prog 16 #[.agg #[.int .i64 a0_0, .slice A0_1 l0_1.length c0_1, .slice A0_2 l0_2.length c0_2], .int .i64 a1] w fun e w' => ∃ v1_ v2_ : Value, e = .returned (.tuple #[.agg #[.int .i64 r1, v1_, v2_], .int .i64 r4, .bool r5]) ∧ Kd.R k45 45 w' w.heap.size (fun k_ => some k_ ≠ (v2_ : Value).ownBlock) v1_ r2 ∧ Kd.R k45 45 w' w.heap.size (fun k_ => some k_ ≠ (v1_ : Value).ownBlock) v2_ r3 ∧ Below w.heap.size w w' := by
 have hu28 := Try.underlying28
 have hu45 := Try.underlying45
 have HR0_1 := aM hr0_1
 have HC0_1 := aM hc0_1
 clear hr0_1 hc0_1
 have HR0_2 := aM hr0_2
 have HC0_2 := aM hc0_2
 clear hr0_2 hc0_2
 have HB := aM (Below.refl w.heap.size w)
 have H : ((impl_GoodBuddy.f k a0_0 l0_1 l0_2).bind fun t284 => (if t284 = true then ((impl_within.f a1 0 a0_0).bind fun t285 => (impl_TakeBlock.j0 k a1 (!t285) a0_0 l0_1 l0_2)) else (impl_TakeBlock.j0 k a1 true a0_0 l0_1 l0_2))) = some (r1, r2, r3, r4, r5) := h
 clear h
 have HC3 := aM H
 clear H
 go_enter Try.func16, Try.ntmps16
 go_upto_region 1 with (first | ((with_reducible refine gate_dst (N := 2) rfl ?_); refine box_event ?hg (N := 2) ?hd (cs := #[.int .i64 a0_0, .slice A0_1 l0_1.length c0_1, .slice A0_2 l0_2.length c0_2]) (t := 28) ?hr ?_; (case hd => rfl); (case hg => rfl); (case hr => first | (go_simp; done) | (go_simp; rfl)); intro gb282 hg w4 hbox hb; have BK282 := aM (hbox); have GW282 := aM ((by rw [hg]; exact (zZ (zH HB.out)) : w.heap.size ≤ gb282)); have GE282 := aM ((by rw [hg]; exact (zZ (zH HB.out)) : w.heap.size ≤ gb282)); replace HB := aM (zT (zH HB.out) hb); clear hb hbox hg) | ((with_reducible refine gate_dst (N := 4) rfl ?_); refine box_event ?hg (N := 4) ?hd (cs := #[.int .i64 0, .slice none 0 0, .slice none 0 0]) (t := 28) ?hr ?_; (case hd => rfl); (case hg => rfl); (case hr => first | (go_simp; done) | (go_simp; rfl)); intro gb283 hg w5 hbox hb; have BK283 := aM (hbox); have GW283 := aM ((by rw [hg]; exact (zZ (zH HB.out)) : w.heap.size ≤ gb283)); have GE283 := aM ((by rw [hg]; exact (zZ (zH HB.out)) : w.heap.size ≤ gb283)); replace HB := aM (zT (zH HB.out) hb); have NB282_283 := nL BK282.out hg; have NB283_282 := nR BK282.out hg; replace BK282 := yK BK282.out hb; clear hb hbox hg))
 (try simp only [Act.put, qA, qB, qC])
 go_cut [21] (fun v21 wc => ∃ (kq : Nat) (x21_2 : Bool), v21 = .bool x21_2 ∧ Aside0 (impl_TakeBlock.j0 kq a1 x21_2 a0_0 l0_1 l0_2 = some (r1, r2, r3, r4, r5)) ∧ Aside0 (kq ≤ k) ∧ Aside0 (wc.heap[gb282]? = some (.cells #[.int .i64 a0_0, (.slice A0_1 l0_1.length c0_1), (.slice A0_2 l0_2.length c0_2)] 28 (0, 0))) ∧ Aside0 (wc.heap[gb283]? = some (.cells #[.int .i64 0, (.slice none 0 0), (.slice none 0 0)] 28 (0, 0))) ∧ Aside0 (Below w.heap.size w wc))
 case first =>
  have H := HC3.out
  clear HC3
  replace H := Option.bind_eq_some_iff.mp H
  obtain ⟨t284, A60, H⟩ := H
  replace H : (if t284 = true then ((impl_within.f a1 0 a0_0).bind fun t285 => (impl_TakeBlock.j0 k a1 (!t285) a0_0 l0_1 l0_2)) else (impl_TakeBlock.j0 k a1 true a0_0 l0_1 l0_2)) = some (r1, r2, r3, r4, r5) := H
  have A6 := aM A60
  clear A60
  by_cases c7 : t284 = true
  ·subst c7
   have H1 : ((impl_within.f a1 0 a0_0).bind fun t285 => (impl_TakeBlock.j0 k a1 (!t285) a0_0 l0_1 l0_2)) = some (r1, r2, r3, r4, r5) := by rw [if_pos rfl] at H; exact H
   clear H
   have H := H1
   clear H1
   replace H := Option.bind_eq_some_iff.mp H
   obtain ⟨t285, A80, H⟩ := H
   replace H : (impl_TakeBlock.j0 k a1 (!t285) a0_0 l0_1 l0_2) = some (r1, r2, r3, r4, r5) := H
   have A8 := aM A80
   clear A80
   have H' := aM H
   clear H
   have hnb9 := NB282_283.out
   have hnc9 := NB283_282.out
   have hcz10_0 : w5.cell? ⟨gb282, 0, none⟩ = some (.int .i64 a0_0) := yc BK282.out 0
   have hcz10_1 : w5.cell? ⟨gb282, 1, none⟩ = some (.slice A0_1 l0_1.length c0_1) := yc BK282.out 1
   have hcz10_2 : w5.cell? ⟨gb282, 2, none⟩ = some (.slice A0_2 l0_2.length c0_2) := yc BK282.out 2
   have hfz10_0 := yZ BK282.out 0
   have hfz10_1 := yZ BK282.out 1
   have hfz10_2 := yZ BK282.out 2
   go_wp2_with (first | ((with_reducible refine gate_callee (f := 19) rfl ?_); refine goesL_ (some 13) rfl rfl Try.func19 (by kernel_rfl) rfl #[.agg #[.int .i64 a0_0, .slice A0_1 l0_1.length c0_1, .slice A0_2 l0_2.length c0_2]] rfl (by (try simp only [List.map_toArray, List.map_cons, List.map_nil]); first | done | rfl | (simp only [List.length_drop, List.length_take]; rfl)) ?_; (with_reducible refine (impl_GoodBuddy.calls k a0_0 _ _ l0_1 _ _ l0_2 true _ ?side1 ?side2 ?side3 ?side4 A6.out).mono ?_); (case side1 => exact cK HR0_1.out HB.out); (case side2 => exact HC0_1.out); (case side3 => exact cK HR0_2.out HB.out); (case side4 => exact HC0_2.out); rintro e w11 ⟨rfl, hb⟩; refine ⟨_, rfl, ?_⟩; replace BK282 := yK BK282.out hb; replace BK283 := yK BK283.out hb; replace HB := aM (zT (zH HB.out) hb); (try clear hb); have hcz12_0 : w11.cell? ⟨gb282, 0, none⟩ = some (.int .i64 a0_0) := yc BK282.out 0; have hcz12_1 : w11.cell? ⟨gb282, 1, none⟩ = some (.slice A0_1 l0_1.length c0_1) := yc BK282.out 1; have hcz12_2 : w11.cell? ⟨gb282, 2, none⟩ = some (.slice A0_2 l0_2.length c0_2) := yc BK282.out 2; have hfz12_0 := yZ BK282.out 0; have hfz12_1 := yZ BK282.out 1; have hfz12_2 := yZ BK282.out 2) | (go_at_call 44; (with_reducible refine (impl_within.calls a1 0 a0_0 t285 _ A8.out).mono ?_); rintro e w' ⟨rfl, ⟨nd, rfl⟩⟩))
   go_meet
   case rel => exact ⟨_, (!t285), (by first | rfl | (simp; done) | (simp [*]; done)), H', ⟨by first | omega | exact Nat.le_refl _⟩, ⟨yH BK282.out⟩, ⟨yH BK283.out⟩, ⟨zH HB.out⟩⟩
  ·replace c7 := Bool.eq_false_iff.mpr c7
   subst c7
   have H1 : (impl_TakeBlock.j0 k a1 true a0_0 l0_1 l0_2) = some (r1, r2, r3, r4, r5) := by rw [if_neg (show ¬ (false = true) by decide)] at H; exact H
   clear H
   have H := H1
   clear H1
   have H' := aM H
   clear H
   have hnb13 := NB282_283.out
   have hnc13 := NB283_282.out
   have hcz14_0 : w5.cell? ⟨gb282, 0, none⟩ = some (.int .i64 a0_0) := yc BK282.out 0
   have hcz14_1 : w5.cell? ⟨gb282, 1, none⟩ = some (.slice A0_1 l0_1.length c0_1) := yc BK282.out 1
   have hcz14_2 : w5.cell? ⟨gb282, 2, none⟩ = some (.slice A0_2 l0_2.length c0_2) := yc BK282.out 2
   have hfz14_0 := yZ BK282.out 0
   have hfz14_1 := yZ BK282.out 1
   have hfz14_2 := yZ BK282.out 2
   go_wp2_with (first | ((with_reducible refine gate_callee (f := 19) rfl ?_); refine goesL_ (some 13) rfl rfl Try.func19 (by kernel_rfl) rfl #[.agg #[.int .i64 a0_0, .slice A0_1 l0_1.length c0_1, .slice A0_2 l0_2.length c0_2]] rfl (by (try simp only [List.map_toArray, List.map_cons, List.map_nil]); first | done | rfl | (simp only [List.length_drop, List.length_take]; rfl)) ?_; (with_reducible refine (impl_GoodBuddy.calls k a0_0 _ _ l0_1 _ _ l0_2 false _ ?side1 ?side2 ?side3 ?side4 A6.out).mono ?_); (case side1 => exact cK HR0_1.out HB.out); (case side2 => exact HC0_1.out); (case side3 => exact cK HR0_2.out HB.out); (case side4 => exact HC0_2.out); rintro e w15 ⟨rfl, hb⟩; refine ⟨_, rfl, ?_⟩; replace BK282 := yK BK282.out hb; replace BK283 := yK BK283.out hb; replace HB := aM (zT (zH HB.out) hb); (try clear hb)))
   go_meet
   case rel => exact ⟨_, (true), (by first | rfl | (simp; done) | (simp [*]; done)), H', ⟨by first | omega | exact Nat.le_refl _⟩, ⟨yH BK282.out⟩, ⟨yH BK283.out⟩, ⟨zH HB.out⟩⟩
 case rest =>
  clear HC3
  (try clear c1); (try clear p2); (try clear c7); (try clear c9); (try clear c13); (try clear hcz10_0); (try clear hcz10_1); (try clear hcz10_2); (try clear hcz12_0); (try clear hcz12_1); (try clear hcz12_2); (try clear hcz14_0); (try clear hcz14_1); (try clear hcz14_2); (try clear hfz10_0); (try clear hfz10_1); (try clear hfz10_2); (try clear hfz12_0); (try clear hfz12_1); (try clear hfz12_2); (try clear hfz14_0); (try clear hfz14_1); (try clear hfz14_2)
  obtain ⟨kq, x21_2, rfl, HA, HJ2, BK282, BK283, HB⟩ := hcut
  cases kq with
  | zero => exact absurd HA.out (fun h_ => by change none = some _ at h_; cases h_)
  | succ kj2 =>
   have H := HA.out
   clear HA
   simp only [impl_TakeBlock.j0] at H
   by_cases c16 : x21_2 = true
   ·subst c16
    have H1 : (some (0, ([] : List (S45)), ([] : List (S45)), 0, false)) = some (r1, r2, r3, r4, r5) := by rw [if_pos rfl] at H; exact H
    clear H
    have H := H1
    clear H1
    simp only [Option.some.injEq, Prod.mk.injEq] at H
    obtain ⟨rfl, rfl, rfl, rfl, rfl⟩ := H
    have hnb17 := NB283_282.out
    have hnc17 := NB282_283.out
    have hcz18_0 : wc.cell? ⟨gb283, 0, none⟩ = some (.int .i64 0) := yc BK283.out 0
    have hcz18_1 : wc.cell? ⟨gb283, 1, none⟩ = some (.slice none 0 0) := yc BK283.out 1
    have hcz18_2 : wc.cell? ⟨gb283, 2, none⟩ = some (.slice none 0 0) := yc BK283.out 2
    have hfz18_0 := yZ BK283.out 0
    have hfz18_1 := yZ BK283.out 1
    have hfz18_2 := yZ BK283.out 2
    go_wp2
    refine bodyPost_ret (results_ctt rfl _ _ gb283 28 #[.int .i64 0, .slice none 0 0, .slice none 0 0] (0, 0) _ rfl (by (with_reducible repeat (first | refine yN ?_ _ | refine yD ?_ | refine yA ?_ _)); refine yP (cs := #[.int .i64 0, .slice none 0 0, .slice none 0 0]) ?_ 2 _ rfl; (with_reducible repeat (first | refine yN ?_ _ | refine yD ?_ | refine yA ?_ _)); refine yP (cs := #[.int .i64 0, .slice none 0 0, .slice none 0 0]) ?_ 1 _ rfl; (with_reducible repeat (first | refine yN ?_ _ | refine yD ?_ | refine yA ?_ _)); refine yP (cs := #[.int .i64 0, .slice none 0 0, .slice none 0 0]) ?_ 0 _ rfl; (with_reducible repeat (first | refine yN ?_ _ | refine yD ?_ | refine yA ?_ _)); exact BK283.out) Try.underlying28 rfl (by kernel_rfl)) rfl ?_
    exact ⟨_, _, by first | rfl | (simp [errW_none, errW_some] <;> rfl) | (simp [*, errW_none, errW_some] <;> rfl), by first | exact Kd.R_nil _ _ _ _ _ | exact Kd.N_nil _ _ _ _ _ | exact Kd.V_nil _ _ _ _ _ | exact Kd.Q_nil _ _ _ _ _ | exact Kd.S_nil _ _ _ _ _, by first | exact Kd.R_nil _ _ _ _ _ | exact Kd.N_nil _ _ _ _ _ | exact Kd.V_nil _ _ _ _ _ | exact Kd.Q_nil _ _ _ _ _ | exact Kd.S_nil _ _ _ _ _, zH HB.out⟩
   ·replace c16 := Bool.eq_false_iff.mpr c16
    subst c16
    have H1 : (impl_TakeBlock.l0 kj2 a1 (-1) l0_1 (l0_1.length : Int) 0 a0_0 l0_1 l0_2) = some (r1, r2, r3, r4, r5) := by rw [if_neg (show ¬ (false = true) by decide)] at H; exact H
    clear H
    have H := H1
    clear H1
    have H' := aM H
    clear H
    have hnb19 := NB282_283.out
    have hnc19 := NB283_282.out
    have hcz20_0 : wc.cell? ⟨gb282, 0, none⟩ = some (.int .i64 a0_0) := yc BK282.out 0
    have hcz20_1 : wc.cell? ⟨gb282, 1, none⟩ = some (.slice A0_1 l0_1.length c0_1) := yc BK282.out 1
    have hcz20_2 : wc.cell? ⟨gb282, 2, none⟩ = some (.slice A0_2 l0_2.length c0_2) := yc BK282.out 2
    have hfz20_0 := yZ BK282.out 0
    have hfz20_1 := yZ BK282.out 1
    have hfz20_2 := yZ BK282.out 2
    go_wp2
    go_loopg [7, 26] kj2 (fun kq v7 v26 w' => ∃ (x7_2 : Int) (x26_2 : Int), v7 = .int .i64 x7_2 ∧ v26 = .int .i64 x26_2 ∧ Aside0 (impl_TakeBlock.l0 kq a1 x7_2 l0_1 (l0_1.length : Int) x26_2 a0_0 l0_1 l0_2 = some (r1, r2, r3, r4, r5)) ∧ Aside0 (kq ≤ kj2) ∧ Aside0 (w'.heap[gb282]? = some (.cells #[.int .i64 a0_0, (.slice A0_1 l0_1.length c0_1), (.slice A0_2 l0_2.length c0_2)] 28 (0, 0))) ∧ Aside0 (w'.heap[gb283]? = some (.cells #[.int .i64 0, (.slice none 0 0), (.slice none 0 0)] 28 (0, 0))) ∧ Aside0 (Below w.heap.size w w'))
    case atStart => exact ⟨((-1)), (0), (by first | rfl | (simp; done) | (simp [*]; done)), (by first | rfl | (simp; done) | (simp [*]; done)), H', ⟨Nat.le_refl _⟩, ⟨yH BK282.out⟩, ⟨yH BK283.out⟩, ⟨zH HB.out⟩⟩
    case round =>
     clear H'
     (try clear c1); (try clear p2); (try clear c7); (try clear c9); (try clear c13); (try clear c16); (try clear c17); (try clear c19); (try clear hcz10_0); (try clear hcz10_1); (try clear hcz10_2); (try clear hcz12_0); (try clear hcz12_1); (try clear hcz12_2); (try clear hcz14_0); (try clear hcz14_1); (try clear hcz14_2); (try clear hcz18_0); (try clear hcz18_1); (try clear hcz18_2); (try clear hcz20_0); (try clear hcz20_1); (try clear hcz20_2); (try clear hfz10_0); (try clear hfz10_1); (try clear hfz10_2); (try clear hfz12_0); (try clear hfz12_1); (try clear hfz12_2); (try clear hfz14_0); (try clear hfz14_1); (try clear hfz14_2); (try clear hfz18_0); (try clear hfz18_1); (try clear hfz18_2); (try clear hfz20_0); (try clear hfz20_1); (try clear hfz20_2); (try clear p2)
     obtain ⟨x7_2, x26_2, rfl, rfl, HA, HK2, BK282, BK283, HB⟩ := hrel
     cases gk with
     | zero => exact absurd HA.out (fun h_ => by change none = some _ at h_; cases h_)
     | succ k2 =>
      have H := HA.out
      clear HA
      simp only [impl_TakeBlock.l0] at H
      by_cases c21 : x26_2 < (l0_1.length : Int)
      ·rw [if_pos c21] at H
       have c21b0 : decide (x26_2 < (l0_1.length : Int)) = true := decide_eq_true c21
       clear c21
       by_cases c22 : 0 ≤ x26_2
       ·rw [if_pos c22] at H
        have c22b0 : decide (0 ≤ x26_2) = true := decide_eq_true c22
        clear c22
        by_cases c23 : x26_2 < (l0_1.length : Int)
        ·rw [if_pos c23] at H
         have c23b0 : decide (x26_2 < (l0_1.length : Int)) = true := decide_eq_true c23
         clear c23
         by_cases c24 : ((rd_T45 l0_1 x26_2).f1) ≥ a1
         ·rw [if_pos c24] at H
          have c24b0 : decide (a1 ≤ ((rd_T45 l0_1 x26_2).f1)) = true := decide_eq_true c24
          clear c24
          by_cases c25 : x7_2 < 0
          ·rw [if_pos c25] at H
           have c25b0 : decide (x7_2 < 0) = true := decide_eq_true c25
           clear c25
           have H' := aM H
           clear H
           have p286 : 0 ≤ (x26_2 : Int) := of_decide_eq_true (by first | (with_reducible assumption) | assumption)
           have q286 : x26_2 < (l0_1.length : Int) := of_decide_eq_true (by first | (with_reducible assumption) | assumption)
           obtain ⟨ad286, e286, hx286_0, hx286_1⟩ := at_T45 HR0_1.out x26_2 p286 q286
           cases e286
           replace hx286_0 := (HB.out.cell (World.block_lt_of_cell? w _ hx286_0)).trans hx286_0
           replace hx286_1 := (HB.out.cell (World.block_lt_of_cell? w _ hx286_1)).trans hx286_1
           replace p286 := eq_true p286
           replace q286 := eq_true q286
           try go_wp2_with (first | ((with_reducible refine gate_dst (N := 9) rfl ?_); refine box_event ?hg (N := 9) ?hd (cs := #[.int .i64 0, .int .i64 0]) (t := 45) ?hr ?_; (case hd => rfl); (case hg => rfl); (case hr => first | (go_simp; done) | (go_simp; rfl)); intro gb287 hg w26 hbox hb; have BK287 := aM (hbox); have GW287 := aM ((by rw [hg]; exact (zZ (zH HB.out)) : w.heap.size ≤ gb287)); have GE287 := aM ((by rw [hg]; exact (zZ (zH HB.out)) : w.heap.size ≤ gb287)); replace HB := aM (zT (zH HB.out) hb); have NB282_287 := nL BK282.out hg; have NB287_282 := nR BK282.out hg; replace BK282 := yK BK282.out hb; have NB283_287 := nL BK283.out hg; have NB287_283 := nR BK283.out hg; replace BK283 := yK BK283.out hb; clear hb hbox hg; have hnb27 := NB287_282.out; have hnc27 := NB282_287.out; have hnb28 := NB287_283.out; have hnc28 := NB283_287.out; have hcz29_0 : w26.cell? ⟨gb287, 0, none⟩ = some (.int .i64 0) := yc BK287.out 0; have hcz29_1 : w26.cell? ⟨gb287, 1, none⟩ = some (.int .i64 0) := yc BK287.out 1; have hfz29_0 := yZ BK287.out 0; have hfz29_1 := yZ BK287.out 1))
           have n0_ : Aside0 (((w26.setCell ⟨gb287, 0, none⟩ (.int .i64 ((rd_T45 l0_1 x26_2).f0))).setCell ⟨gb287, 1, none⟩ (.int .i64 ((rd_T45 l0_1 x26_2).f1))).heap[gb282]? = some (.cells #[.int .i64 a0_0, .slice (some ad286) l0_1.length c0_1, .slice A0_2 l0_2.length c0_2] 28 (0, 0))) := ⟨by (with_reducible repeat (first | refine yN ?_ _ | refine yD ?_ | refine yA ?_ _)); refine yF ?_ NB282_287.out _; (with_reducible repeat (first | refine yN ?_ _ | refine yD ?_ | refine yA ?_ _)); refine yF ?_ NB282_287.out _; (with_reducible repeat (first | refine yN ?_ _ | refine yD ?_ | refine yA ?_ _)); exact BK282.out⟩
           have n1_ : Aside0 (((w26.setCell ⟨gb287, 0, none⟩ (.int .i64 ((rd_T45 l0_1 x26_2).f0))).setCell ⟨gb287, 1, none⟩ (.int .i64 ((rd_T45 l0_1 x26_2).f1))).heap[gb283]? = some (.cells #[.int .i64 0, .slice none 0 0, .slice none 0 0] 28 (0, 0))) := ⟨by (with_reducible repeat (first | refine yN ?_ _ | refine yD ?_ | refine yA ?_ _)); refine yF ?_ NB283_287.out _; (with_reducible repeat (first | refine yN ?_ _ | refine yD ?_ | refine yA ?_ _)); refine yF ?_ NB283_287.out _; (with_reducible repeat (first | refine yN ?_ _ | refine yD ?_ | refine yA ?_ _)); exact BK283.out⟩
           have n2_ : Aside0 (((w26.setCell ⟨gb287, 0, none⟩ (.int .i64 ((rd_T45 l0_1 x26_2).f0))).setCell ⟨gb287, 1, none⟩ (.int .i64 ((rd_T45 l0_1 x26_2).f1))).heap[gb287]? = some (.cells #[.int .i64 ((rd_T45 l0_1 x26_2).f0), .int .i64 ((rd_T45 l0_1 x26_2).f1)] 45 (0, 0))) := ⟨by (with_reducible repeat (first | refine yN ?_ _ | refine yD ?_ | refine yA ?_ _)); refine yP (cs := #[.int .i64 ((rd_T45 l0_1 x26_2).f0), .int .i64 0]) ?_ 1 _ rfl; (with_reducible repeat (first | refine yN ?_ _ | refine yD ?_ | refine yA ?_ _)); refine yP (cs := #[.int .i64 0, .int .i64 0]) ?_ 0 _ rfl; (with_reducible repeat (first | refine yN ?_ _ | refine yD ?_ | refine yA ?_ _)); exact BK287.out⟩
           have n3_ : Aside0 (Below w.heap.size w ((w26.setCell ⟨gb287, 0, none⟩ (.int .i64 ((rd_T45 l0_1 x26_2).f0))).setCell ⟨gb287, 1, none⟩ (.int .i64 ((rd_T45 l0_1 x26_2).f1)))) := ⟨zH HB.out⟩
           (try clear BK282); (try clear BK283); (try clear BK287); (try clear HB)
           generalize ((w26.setCell ⟨gb287, 0, none⟩ (.int .i64 ((rd_T45 l0_1 x26_2).f0))).setCell ⟨gb287, 1, none⟩ (.int .i64 ((rd_T45 l0_1 x26_2).f1))) = w30 at n0_ n1_ n2_ n3_ ⊢
           have BK282 := n0_
           have BK283 := n1_
           have BK287 := n2_
           have HB := n3_
           clear n0_ n1_ n2_ n3_
           replace BK282 := aM (yD BK282.out)
           replace BK283 := aM (yD BK283.out)
           replace BK287 := aM (yD BK287.out)
           replace HB := aM (zD HB.out)
           refine start_ (n := 19) (S := fun w' => w'.cell? ⟨gb287, 0, none⟩ = some (.int .i64 ((rd_T45 l0_1 x26_2).f0)) ∧ w'.cell? ⟨gb287, 1, none⟩ = some (.int .i64 ((rd_T45 l0_1 x26_2).f1))) (ds := []) #[fF,fF,fF,fF,fF,fF,fF,fF,fF,fF,fF,fF,fF,fF,fF,fF,fF,fF,fF] (by kernel_rfl) rfl rfl ⟨yc BK287.out 0, yc BK287.out 1⟩ (fun hHeld => ?_); refine with_tabW impl_TakeBlock.tab7 impl_TakeBlock.bits7 (fun HT_ HW_ => ?_)
           generalize w30.drew = w31 at BK282 BK283 BK287 HB hHeld ⊢
           refine pure_ (i := 0) (N := some 31) (v := ?_) (a' := ?_) #[tT,fF,fF,fF,fF,fF,fF,fF,fF,fF,fF,fF,fF,fF,fF,fF,fF,fF,fF] rfl rfl (any_of HT_.out (by kernel_rfl)) (fun _ _ _ h => h) (Or.inl ⟨by rfl, ?_⟩) ?_ ?_
           rotate_left
           ·intro w'
            go_simp
            with_reducible rfl
           rotate_left
           ·simp only [Act.put, qA, qB, qC, i64_w, i32_w]
            rfl
           refine pure_ (i := 2) (N := some 33) (v := ?_) (a' := ?_) #[tT,fF,tT,fF,fF,fF,fF,fF,fF,fF,fF,fF,fF,fF,fF,fF,fF,fF,fF] rfl rfl (any_of HT_.out (by kernel_rfl)) (fun _ _ _ h => h) (Or.inl ⟨by rfl, ?_⟩) ?_ ?_
           rotate_left
           ·intro w'
            go_simp
            with_reducible rfl
           rotate_left
           ·simp only [Act.put, qA, qB, qC, i64_w, i32_w]
            rfl
           refine take_ (i := 1) (N := some 32) (v := ?_) (a' := ?_) #[tT,tT,tT,fF,fF,fF,fF,fF,fF,fF,fF,fF,fF,fF,fF,fF,fF,fF,fF] rfl rfl (take_ofW HT_.out HW_.out (by kernel_rfl)) (fun _ _ _ h => h) (Or.inl ⟨by rfl, ?_⟩) hHeld ?_ ?_
           rotate_left
           ·rintro w' ⟨s0, s1⟩
            go_simp
            with_reducible rfl
           rotate_left
           ·simp only [Act.put, qA, qB, qC, i64_w, i32_w]
            rfl
           refine pure_ (i := 3) (N := some 34) (v := ?_) (a' := ?_) #[tT,tT,tT,tT,fF,fF,fF,fF,fF,fF,fF,fF,fF,fF,fF,fF,fF,fF,fF] rfl rfl (any_of HT_.out (by kernel_rfl)) (fun _ _ _ h => h) (Or.inl ⟨by rfl, ?_⟩) ?_ ?_
           rotate_left
           ·intro w'
            go_simp
            with_reducible rfl
           rotate_left
           ·simp only [Act.put, qA, qB, qC, i64_w, i32_w]
            rfl
           refine pure_ (i := 4) (N := some 35) (v := ?_) (a' := ?_) #[tT,tT,tT,tT,tT,fF,fF,fF,fF,fF,fF,fF,fF,fF,fF,fF,fF,fF,fF] rfl rfl (any_of HT_.out (by kernel_rfl)) (fun _ _ _ h => h) (Or.inl ⟨by rfl, ?_⟩) ?_ ?_
           rotate_left
           ·intro w'
            go_simp
            with_reducible rfl
           rotate_left
           ·simp only [Act.put, qA, qB, qC, i64_w, i32_w]
            rfl
           refine pure_ (i := 5) (N := some 36) (v := ?_) (a' := ?_) #[tT,tT,tT,tT,tT,tT,fF,fF,fF,fF,fF,fF,fF,fF,fF,fF,fF,fF,fF] rfl rfl (any_of HT_.out (by kernel_rfl)) (fun _ _ _ h => h) (Or.inl ⟨by rfl, ?_⟩) ?_ ?_
           rotate_left
           ·intro w'
            go_simp
            with_reducible rfl
           rotate_left
           ·simp only [Act.put, qA, qB, qC, i64_w, i32_w]
            rfl
           refine pure_ (i := 6) (N := some 37) (v := ?_) (a' := ?_) #[tT,tT,tT,tT,tT,tT,tT,fF,fF,fF,fF,fF,fF,fF,fF,fF,fF,fF,fF] rfl rfl (any_of HT_.out (by kernel_rfl)) (fun _ _ _ h => h) (Or.inl ⟨by rfl, ?_⟩) ?_ ?_
           rotate_left
           ·intro w'
            go_simp
            with_reducible rfl
           rotate_left
           ·simp only [Act.put, qA, qB, qC, i64_w, i32_w]
            rfl
           refine pure_ (i := 7) (N := some 38) (v := ?_) (a' := ?_) #[tT,tT,tT,tT,tT,tT,tT,tT,fF,fF,fF,fF,fF,fF,fF,fF,fF,fF,fF] rfl rfl (any_of HT_.out (by kernel_rfl)) (fun _ _ _ h => h) (Or.inl ⟨by rfl, ?_⟩) ?_ ?_
           rotate_left
           ·intro w'
            go_simp
            with_reducible rfl
           rotate_left
           ·simp only [Act.put, qA, qB, qC, i64_w, i32_w]
            rfl
           refine pure_ (i := 8) (N := some 39) (v := undef) (a' := ?_) #[tT,tT,tT,tT,tT,tT,tT,tT,tT,fF,fF,fF,fF,fF,fF,fF,fF,fF,fF] rfl rfl (any_of HT_.out (by kernel_rfl)) (fun _ _ _ h => h) (Or.inr ⟨by rfl, rfl⟩) ?_ ?_
           rotate_left
           ·simp only [Act.put, qA, qB, qC, i64_w, i32_w]
            rfl
           refine pure_ (i := 9) (N := some 40) (v := undef) (a' := ?_) #[tT,tT,tT,tT,tT,tT,tT,tT,tT,tT,fF,fF,fF,fF,fF,fF,fF,fF,fF] rfl rfl (any_of HT_.out (by kernel_rfl)) (fun _ _ _ h => h) (Or.inr ⟨by rfl, rfl⟩) ?_ ?_
           rotate_left
           ·simp only [Act.put, qA, qB, qC, i64_w, i32_w]
            rfl
           refine pure_ (i := 10) (N := some 41) (v := undef) (a' := ?_) #[tT,tT,tT,tT,tT,tT,tT,tT,tT,tT,tT,fF,fF,fF,fF,fF,fF,fF,fF] rfl rfl (any_of HT_.out (by kernel_rfl)) (fun _ _ _ h => h) (Or.inr ⟨by rfl, rfl⟩) ?_ ?_
           rotate_left
           ·simp only [Act.put, qA, qB, qC, i64_w, i32_w]
            rfl
           refine pure_ (i := 11) (N := some 42) (v := undef) (a' := ?_) #[tT,tT,tT,tT,tT,tT,tT,tT,tT,tT,tT,tT,fF,fF,fF,fF,fF,fF,fF] rfl rfl (any_of HT_.out (by kernel_rfl)) (fun _ _ _ h => h) (Or.inr ⟨by rfl, rfl⟩) ?_ ?_
           rotate_left
           ·simp only [Act.put, qA, qB, qC, i64_w, i32_w]
            rfl
           refine pure_ (i := 12) (N := some 43) (v := undef) (a' := ?_) #[tT,tT,tT,tT,tT,tT,tT,tT,tT,tT,tT,tT,tT,fF,fF,fF,fF,fF,fF] rfl rfl (any_of HT_.out (by kernel_rfl)) (fun _ _ _ h => h) (Or.inr ⟨by rfl, rfl⟩) ?_ ?_
           rotate_left
           ·simp only [Act.put, qA, qB, qC, i64_w, i32_w]
            rfl
           refine pure_ (i := 13) (N := some 44) (v := undef) (a' := ?_) #[tT,tT,tT,tT,tT,tT,tT,tT,tT,tT,tT,tT,tT,tT,fF,fF,fF,fF,fF] rfl rfl (any_of HT_.out (by kernel_rfl)) (fun _ _ _ h => h) (Or.inr ⟨by rfl, rfl⟩) ?_ ?_
           rotate_left
           ·simp only [Act.put, qA, qB, qC, i64_w, i32_w]
            rfl
           refine pure_ (i := 14) (N := some 45) (v := undef) (a' := ?_) #[tT,tT,tT,tT,tT,tT,tT,tT,tT,tT,tT,tT,tT,tT,tT,fF,fF,fF,fF] rfl rfl (any_of HT_.out (by kernel_rfl)) (fun _ _ _ h => h) (Or.inr ⟨by rfl, rfl⟩) ?_ ?_
           rotate_left
           ·simp only [Act.put, qA, qB, qC, i64_w, i32_w]
            rfl
           refine pure_ (i := 15) (N := some 46) (v := undef) (a' := ?_) #[tT,tT,tT,tT,tT,tT,tT,tT,tT,tT,tT,tT,tT,tT,tT,tT,fF,fF,fF] rfl rfl (any_of HT_.out (by kernel_rfl)) (fun _ _ _ h => h) (Or.inr ⟨by rfl, rfl⟩) ?_ ?_
           rotate_left
           ·simp only [Act.put, qA, qB, qC, i64_w, i32_w]
            rfl
           refine pure_ (i := 16) (N := some 47) (v := undef) (a' := ?_) #[tT,tT,tT,tT,tT,tT,tT,tT,tT,tT,tT,tT,tT,tT,tT,tT,tT,fF,fF] rfl rfl (any_of HT_.out (by kernel_rfl)) (fun _ _ _ h => h) (Or.inr ⟨by rfl, rfl⟩) ?_ ?_
           rotate_left
           ·simp only [Act.put, qA, qB, qC, i64_w, i32_w]
            rfl
           refine pure_ (i := 17) (N := some 48) (v := ?_) (a' := ?_) #[tT,tT,tT,tT,tT,tT,tT,tT,tT,tT,tT,tT,tT,tT,tT,tT,tT,tT,fF] rfl rfl (any_of HT_.out (by kernel_rfl)) (fun _ _ _ h => h) (Or.inl ⟨by rfl, ?_⟩) ?_ ?_
           rotate_left
           ·intro w'
            go_simp
            with_reducible rfl
           rotate_left
           ·simp only [Act.put, qA, qB, qC, i64_w, i32_w]
            rfl
           refine pure_ (i := 18) (N := some 49) (v := ?_) (a' := ?_) #[tT,tT,tT,tT,tT,tT,tT,tT,tT,tT,tT,tT,tT,tT,tT,tT,tT,tT,tT] rfl rfl (any_of HT_.out (by kernel_rfl)) (fun _ _ _ h => h) (Or.inl ⟨by rfl, ?_⟩) ?_ ?_
           rotate_left
           ·intro w'
            go_simp
            with_reducible rfl
           rotate_left
           ·simp only [Act.put, qA, qB, qC, i64_w, i32_w]
            rfl
           refine done_ (done_of HT_.out (by kernel_rfl)) ?_
           try go_wp2
           go_roundg k2
           case measure => have := HJ2.out; have := HK2.out; omega
           case rel => exact ⟨(x26_2), (wrap64 (x26_2 + 1)), (by first | rfl | (simp; done) | (simp [*]; done)), (by first | rfl | (simp; done) | (simp [*]; done)), H', ⟨by have := HJ2.out; have := HK2.out; omega⟩, ⟨yH BK282.out⟩, ⟨yH BK283.out⟩, ⟨zH HB.out⟩⟩
          ·rw [if_neg c25] at H
           have c25b0 : decide (x7_2 < 0) = false := decide_eq_false c25
           clear c25
           by_cases c32 : 0 ≤ x7_2
           ·rw [if_pos c32] at H
            have c32b0 : decide (0 ≤ x7_2) = true := decide_eq_true c32
            clear c32
            by_cases c33 : x7_2 < (l0_1.length : Int)
            ·rw [if_pos c33] at H
             have c33b0 : decide (x7_2 < (l0_1.length : Int)) = true := decide_eq_true c33
             clear c33
             by_cases c34 : ((rd_T45 l0_1 x26_2).f1) < ((rd_T45 l0_1 x7_2).f1)
             ·rw [if_pos c34] at H
              have c34b0 : decide (((rd_T45 l0_1 x26_2).f1) < ((rd_T45 l0_1 x7_2).f1)) = true := decide_eq_true c34
              clear c34
              have H' := aM H
              clear H
              have p286 : 0 ≤ (x26_2 : Int) := of_decide_eq_true (by first | (with_reducible assumption) | assumption)
              have q286 : x26_2 < (l0_1.length : Int) := of_decide_eq_true (by first | (with_reducible assumption) | assumption)
              obtain ⟨ad286, e286, hx286_0, hx286_1⟩ := at_T45 HR0_1.out x26_2 p286 q286
              cases e286
              replace hx286_0 := (HB.out.cell (World.block_lt_of_cell? w _ hx286_0)).trans hx286_0
              replace hx286_1 := (HB.out.cell (World.block_lt_of_cell? w _ hx286_1)).trans hx286_1
              replace p286 := eq_true p286
              replace q286 := eq_true q286
              try go_wp2_with (first | ((with_reducible refine gate_dst (N := 9) rfl ?_); refine box_event ?hg (N := 9) ?hd (cs := #[.int .i64 0, .int .i64 0]) (t := 45) ?hr ?_; (case hd => rfl); (case hg => rfl); (case hr => first | (go_simp; done) | (go_simp; rfl)); intro gb287 hg w35 hbox hb; have BK287 := aM (hbox); have GW287 := aM ((by rw [hg]; exact (zZ (zH HB.out)) : w.heap.size ≤ gb287)); have GE287 := aM ((by rw [hg]; exact (zZ (zH HB.out)) : w.heap.size ≤ gb287)); replace HB := aM (zT (zH HB.out) hb); have NB282_287 := nL BK282.out hg; have NB287_282 := nR BK282.out hg; replace BK282 := yK BK282.out hb; have NB283_287 := nL BK283.out hg; have NB287_283 := nR BK283.out hg; replace BK283 := yK BK283.out hb; clear hb hbox hg; have hnb36 := NB287_282.out; have hnc36 := NB282_287.out; have hnb37 := NB287_283.out; have hnc37 := NB283_287.out; have hcz38_0 : w35.cell? ⟨gb287, 0, none⟩ = some (.int .i64 0) := yc BK287.out 0; have hcz38_1 : w35.cell? ⟨gb287, 1, none⟩ = some (.int .i64 0) := yc BK287.out 1; have hfz38_0 := yZ BK287.out 0; have hfz38_1 := yZ BK287.out 1))
              have n0_ : Aside0 (((w35.setCell ⟨gb287, 0, none⟩ (.int .i64 ((rd_T45 l0_1 x26_2).f0))).setCell ⟨gb287, 1, none⟩ (.int .i64 ((rd_T45 l0_1 x26_2).f1))).heap[gb282]? = some (.cells #[.int .i64 a0_0, .slice (some ad286) l0_1.length c0_1, .slice A0_2 l0_2.length c0_2] 28 (0, 0))) := ⟨by (with_reducible repeat (first | refine yN ?_ _ | refine yD ?_ | refine yA ?_ _)); refine yF ?_ NB282_287.out _; (with_reducible repeat (first | refine yN ?_ _ | refine yD ?_ | refine yA ?_ _)); refine yF ?_ NB282_287.out _; (with_reducible repeat (first | refine yN ?_ _ | refine yD ?_ | refine yA ?_ _)); exact BK282.out⟩
              have n1_ : Aside0 (((w35.setCell ⟨gb287, 0, none⟩ (.int .i64 ((rd_T45 l0_1 x26_2).f0))).setCell ⟨gb287, 1, none⟩ (.int .i64 ((rd_T45 l0_1 x26_2).f1))).heap[gb283]? = some (.cells #[.int .i64 0, .slice none 0 0, .slice none 0 0] 28 (0, 0))) := ⟨by (with_reducible repeat (first | refine yN ?_ _ | refine yD ?_ | refine yA ?_ _)); refine yF ?_ NB283_287.out _; (with_reducible repeat (first | refine yN ?_ _ | refine yD ?_ | refine yA ?_ _)); refine yF ?_ NB283_287.out _; (with_reducible repeat (first | refine yN ?_ _ | refine yD ?_ | refine yA ?_ _)); exact BK283.out⟩
              have n2_ : Aside0 (((w35.setCell ⟨gb287, 0, none⟩ (.int .i64 ((rd_T45 l0_1 x26_2).f0))).setCell ⟨gb287, 1, none⟩ (.int .i64 ((rd_T45 l0_1 x26_2).f1))).heap[gb287]? = some (.cells #[.int .i64 ((rd_T45 l0_1 x26_2).f0), .int .i64 ((rd_T45 l0_1 x26_2).f1)] 45 (0, 0))) := ⟨by (with_reducible repeat (first | refine yN ?_ _ | refine yD ?_ | refine yA ?_ _)); refine yP (cs := #[.int .i64 ((rd_T45 l0_1 x26_2).f0), .int .i64 0]) ?_ 1 _ rfl; (with_reducible repeat (first | refine yN ?_ _ | refine yD ?_ | refine yA ?_ _)); refine yP (cs := #[.int .i64 0, .int .i64 0]) ?_ 0 _ rfl; (with_reducible repeat (first | refine yN ?_ _ | refine yD ?_ | refine yA ?_ _)); exact BK287.out⟩
              have n3_ : Aside0 (Below w.heap.size w ((w35.setCell ⟨gb287, 0, none⟩ (.int .i64 ((rd_T45 l0_1 x26_2).f0))).setCell ⟨gb287, 1, none⟩ (.int .i64 ((rd_T45 l0_1 x26_2).f1)))) := ⟨zH HB.out⟩
              (try clear BK282); (try clear BK283); (try clear BK287); (try clear HB)
              generalize ((w35.setCell ⟨gb287, 0, none⟩ (.int .i64 ((rd_T45 l0_1 x26_2).f0))).setCell ⟨gb287, 1, none⟩ (.int .i64 ((rd_T45 l0_1 x26_2).f1))) = w39 at n0_ n1_ n2_ n3_ ⊢
              have BK282 := n0_
              have BK283 := n1_
              have BK287 := n2_
              have HB := n3_
              clear n0_ n1_ n2_ n3_
              replace BK282 := aM (yD BK282.out)
              replace BK283 := aM (yD BK283.out)
              replace BK287 := aM (yD BK287.out)
              replace HB := aM (zD HB.out)
              have p288 : 0 ≤ (x7_2 : Int) := of_decide_eq_true (by first | (with_reducible assumption) | assumption)
              have q288 : x7_2 < (l0_1.length : Int) := of_decide_eq_true (by first | (with_reducible assumption) | assumption)
              obtain ⟨ad288, e288, hx288_0, hx288_1⟩ := at_T45 HR0_1.out x7_2 p288 q288
              have hw288_1 := hx288_1
              have hw288_0 := hx288_0
              obtain rfl : ad286 = ad288 := (by injection e288)
              replace hx288_0 := (HB.out.cell (World.block_lt_of_cell? w _ hx288_0)).trans hx288_0
              replace hx288_1 := (HB.out.cell (World.block_lt_of_cell? w _ hx288_1)).trans hx288_1
              replace p288 := eq_true p288
              replace q288 := eq_true q288
              refine start_ (n := 19) (S := fun w' => w'.cell? ⟨gb287, 0, none⟩ = some (.int .i64 ((rd_T45 l0_1 x26_2).f0)) ∧ w'.cell? ⟨gb287, 1, none⟩ = some (.int .i64 ((rd_T45 l0_1 x26_2).f1)) ∧ w'.cell? ⟨gb282, 0, none⟩ = some (.int .i64 a0_0) ∧ w'.cell? ⟨gb282, 1, none⟩ = some (.slice (some ad286) l0_1.length c0_1) ∧ w'.cell? ⟨gb282, 2, none⟩ = some (.slice A0_2 l0_2.length c0_2) ∧ w'.cell? (ad286.add ((x7_2).toNat * 2)) = some (.int .i64 ((rd_T45 l0_1 x7_2).f0)) ∧ w'.cell? ⟨(ad286.add ((x7_2).toNat * 2)).block, (ad286.add ((x7_2).toNat * 2)).off + 1, none⟩ = some (.int .i64 ((rd_T45 l0_1 x7_2).f1))) (ds := []) #[fF,fF,fF,fF,fF,fF,fF,fF,fF,fF,fF,fF,fF,fF,fF,fF,fF,fF,fF] (by kernel_rfl) rfl rfl ⟨yc BK287.out 0, yc BK287.out 1, yc BK282.out 0, yc BK282.out 1, yc BK282.out 2, ((HB.out.cell (World.block_lt_of_cell? w _ hw288_0)).trans hw288_0), ((HB.out.cell (World.block_lt_of_cell? w _ hw288_1)).trans hw288_1)⟩ (fun hHeld => ?_); refine with_tabW impl_TakeBlock.tab7 impl_TakeBlock.bits7 (fun HT_ HW_ => ?_)
              generalize w39.drew = w40 at BK282 BK283 BK287 HB hx288_0 hx288_1 hHeld ⊢
              refine pure_ (i := 0) (N := some 31) (v := ?_) (a' := ?_) #[tT,fF,fF,fF,fF,fF,fF,fF,fF,fF,fF,fF,fF,fF,fF,fF,fF,fF,fF] rfl rfl (any_of HT_.out (by kernel_rfl)) (fun _ _ _ h => h) (Or.inl ⟨by rfl, ?_⟩) ?_ ?_
              rotate_left
              ·intro w'
               go_simp
               with_reducible rfl
              rotate_left
              ·simp only [Act.put, qA, qB, qC, i64_w, i32_w]
               rfl
              refine pure_ (i := 2) (N := some 33) (v := ?_) (a' := ?_) #[tT,fF,tT,fF,fF,fF,fF,fF,fF,fF,fF,fF,fF,fF,fF,fF,fF,fF,fF] rfl rfl (any_of HT_.out (by kernel_rfl)) (fun _ _ _ h => h) (Or.inl ⟨by rfl, ?_⟩) ?_ ?_
              rotate_left
              ·intro w'
               go_simp
               with_reducible rfl
              rotate_left
              ·simp only [Act.put, qA, qB, qC, i64_w, i32_w]
               rfl
              refine take_ (i := 1) (N := some 32) (v := ?_) (a' := ?_) #[tT,tT,tT,fF,fF,fF,fF,fF,fF,fF,fF,fF,fF,fF,fF,fF,fF,fF,fF] rfl rfl (take_ofW HT_.out HW_.out (by kernel_rfl)) (fun _ _ _ h => h) (Or.inl ⟨by rfl, ?_⟩) hHeld ?_ ?_
              rotate_left
              ·rintro w' ⟨s0, s1, s2, s3, s4, s5, s6⟩
               go_simp
               with_reducible rfl
              rotate_left
              ·simp only [Act.put, qA, qB, qC, i64_w, i32_w]
               rfl
              refine pure_ (i := 3) (N := some 34) (v := ?_) (a' := ?_) #[tT,tT,tT,tT,fF,fF,fF,fF,fF,fF,fF,fF,fF,fF,fF,fF,fF,fF,fF] rfl rfl (any_of HT_.out (by kernel_rfl)) (fun _ _ _ h => h) (Or.inl ⟨by rfl, ?_⟩) ?_ ?_
              rotate_left
              ·intro w'
               go_simp
               with_reducible rfl
              rotate_left
              ·simp only [Act.put, qA, qB, qC, i64_w, i32_w]
               rfl
              refine pure_ (i := 4) (N := some 35) (v := ?_) (a' := ?_) #[tT,tT,tT,tT,tT,fF,fF,fF,fF,fF,fF,fF,fF,fF,fF,fF,fF,fF,fF] rfl rfl (any_of HT_.out (by kernel_rfl)) (fun _ _ _ h => h) (Or.inl ⟨by rfl, ?_⟩) ?_ ?_
              rotate_left
              ·intro w'
               go_simp
               with_reducible rfl
              rotate_left
              ·simp only [Act.put, qA, qB, qC, i64_w, i32_w]
               rfl
              refine pure_ (i := 5) (N := some 36) (v := ?_) (a' := ?_) #[tT,tT,tT,tT,tT,tT,fF,fF,fF,fF,fF,fF,fF,fF,fF,fF,fF,fF,fF] rfl rfl (any_of HT_.out (by kernel_rfl)) (fun _ _ _ h => h) (Or.inl ⟨by rfl, ?_⟩) ?_ ?_
              rotate_left
              ·intro w'
               go_simp
               with_reducible rfl
              rotate_left
              ·simp only [Act.put, qA, qB, qC, i64_w, i32_w]
               rfl
              refine pure_ (i := 6) (N := some 37) (v := ?_) (a' := ?_) #[tT,tT,tT,tT,tT,tT,tT,fF,fF,fF,fF,fF,fF,fF,fF,fF,fF,fF,fF] rfl rfl (any_of HT_.out (by kernel_rfl)) (fun _ _ _ h => h) (Or.inl ⟨by rfl, ?_⟩) ?_ ?_
              rotate_left
              ·intro w'
               go_simp
               with_reducible rfl
              rotate_left
              ·simp only [Act.put, qA, qB, qC, i64_w, i32_w]
               rfl
              refine pure_ (i := 7) (N := some 38) (v := ?_) (a' := ?_) #[tT,tT,tT,tT,tT,tT,tT,tT,fF,fF,fF,fF,fF,fF,fF,fF,fF,fF,fF] rfl rfl (any_of HT_.out (by kernel_rfl)) (fun _ _ _ h => h) (Or.inl ⟨by rfl, ?_⟩) ?_ ?_
              rotate_left
              ·intro w'
               go_simp
               with_reducible rfl
              rotate_left
              ·simp only [Act.put, qA, qB, qC, i64_w, i32_w]
               rfl
              refine pure_ (i := 8) (N := some 39) (v := ?_) (a' := ?_) #[tT,tT,tT,tT,tT,tT,tT,tT,tT,fF,fF,fF,fF,fF,fF,fF,fF,fF,fF] rfl rfl (any_of HT_.out (by kernel_rfl)) (fun _ _ _ h => h) (Or.inl ⟨by rfl, ?_⟩) ?_ ?_
              rotate_left
              ·intro w'
               go_simp
               with_reducible rfl
              rotate_left
              ·simp only [Act.put, qA, qB, qC, i64_w, i32_w]
               rfl
              refine pure_ (i := 10) (N := some 41) (v := ?_) (a' := ?_) #[tT,tT,tT,tT,tT,tT,tT,tT,tT,fF,tT,fF,fF,fF,fF,fF,fF,fF,fF] rfl rfl (any_of HT_.out (by kernel_rfl)) (fun _ _ _ h => h) (Or.inl ⟨by rfl, ?_⟩) ?_ ?_
              rotate_left
              ·intro w'
               go_simp
               with_reducible rfl
              rotate_left
              ·simp only [Act.put, qA, qB, qC, i64_w, i32_w]
               rfl
              refine pure_ (i := 12) (N := some 43) (v := ?_) (a' := ?_) #[tT,tT,tT,tT,tT,tT,tT,tT,tT,fF,tT,fF,tT,fF,fF,fF,fF,fF,fF] rfl rfl (any_of HT_.out (by kernel_rfl)) (fun _ _ _ h => h) (Or.inl ⟨by rfl, ?_⟩) ?_ ?_
              rotate_left
              ·intro w'
               go_simp
               with_reducible rfl
              rotate_left
              ·simp only [Act.put, qA, qB, qC, i64_w, i32_w]
               rfl
              refine take_ (i := 9) (N := some 40) (v := ?_) (a' := ?_) #[tT,tT,tT,tT,tT,tT,tT,tT,tT,tT,tT,fF,tT,fF,fF,fF,fF,fF,fF] rfl rfl (take_ofW HT_.out HW_.out (by kernel_rfl)) (fun _ _ _ h => h) (Or.inl ⟨by rfl, ?_⟩) hHeld ?_ ?_
              rotate_left
              ·rintro w' ⟨s0, s1, s2, s3, s4, s5, s6⟩
               go_simp
               with_reducible rfl
              rotate_left
              ·simp only [Act.put, qA, qB, qC, i64_w, i32_w]
               rfl
              refine take_ (i := 11) (N := some 42) (v := ?_) (a' := ?_) #[tT,tT,tT,tT,tT,tT,tT,tT,tT,tT,tT,tT,tT,fF,fF,fF,fF,fF,fF] rfl rfl (take_ofW HT_.out HW_.out (by kernel_rfl)) (fun _ _ _ h => h) (Or.inl ⟨by rfl, ?_⟩) hHeld ?_ ?_
              rotate_left
              ·rintro w' ⟨s0, s1, s2, s3, s4, s5, s6⟩
               go_simp
               with_reducible rfl
              rotate_left
              ·simp only [Act.put, qA, qB, qC, i64_w, i32_w]
               rfl
              refine pure_ (i := 13) (N := some 44) (v := ?_) (a' := ?_) #[tT,tT,tT,tT,tT,tT,tT,tT,tT,tT,tT,tT,tT,tT,fF,fF,fF,fF,fF] rfl rfl (any_of HT_.out (by kernel_rfl)) (fun _ _ _ h => h) (Or.inl ⟨by rfl, ?_⟩) ?_ ?_
              rotate_left
              ·intro w'
               go_simp
               with_reducible rfl
              rotate_left
              ·simp only [Act.put, qA, qB, qC, i64_w, i32_w]
               rfl
              refine pure_ (i := 14) (N := some 45) (v := ?_) (a' := ?_) #[tT,tT,tT,tT,tT,tT,tT,tT,tT,tT,tT,tT,tT,tT,tT,fF,fF,fF,fF] rfl rfl (any_of HT_.out (by kernel_rfl)) (fun _ _ _ h => h) (Or.inl ⟨by rfl, ?_⟩) ?_ ?_
              rotate_left
              ·intro w'
               go_simp
               with_reducible rfl
              rotate_left
              ·simp only [Act.put, qA, qB, qC, i64_w, i32_w]
               rfl
              refine take_ (i := 15) (N := some 46) (v := ?_) (a' := ?_) #[tT,tT,tT,tT,tT,tT,tT,tT,tT,tT,tT,tT,tT,tT,tT,tT,fF,fF,fF] rfl rfl (take_ofW HT_.out HW_.out (by kernel_rfl)) (fun _ _ _ h => h) (Or.inl ⟨by rfl, ?_⟩) hHeld ?_ ?_
              rotate_left
              ·rintro w' ⟨s0, s1, s2, s3, s4, s5, s6⟩
               go_simp
               with_reducible rfl
              rotate_left
              ·simp only [Act.put, qA, qB, qC, i64_w, i32_w]
               rfl
              refine pure_ (i := 16) (N := some 47) (v := ?_) (a' := ?_) #[tT,tT,tT,tT,tT,tT,tT,tT,tT,tT,tT,tT,tT,tT,tT,tT,tT,fF,fF] rfl rfl (any_of HT_.out (by kernel_rfl)) (fun _ _ _ h => h) (Or.inl ⟨by rfl, ?_⟩) ?_ ?_
              rotate_left
              ·intro w'
               go_simp
               with_reducible rfl
              rotate_left
              ·simp only [Act.put, qA, qB, qC, i64_w, i32_w]
               rfl
              refine pure_ (i := 17) (N := some 48) (v := ?_) (a' := ?_) #[tT,tT,tT,tT,tT,tT,tT,tT,tT,tT,tT,tT,tT,tT,tT,tT,tT,tT,fF] rfl rfl (any_of HT_.out (by kernel_rfl)) (fun _ _ _ h => h) (Or.inl ⟨by rfl, ?_⟩) ?_ ?_
              rotate_left
              ·intro w'
               go_simp
               with_reducible rfl
              rotate_left
              ·simp only [Act.put, qA, qB, qC, i64_w, i32_w]
               rfl
              refine pure_ (i := 18) (N := some 49) (v := ?_) (a' := ?_) #[tT,tT,tT,tT,tT,tT,tT,tT,tT,tT,tT,tT,tT,tT,tT,tT,tT,tT,tT] rfl rfl (any_of HT_.out (by kernel_rfl)) (fun _ _ _ h => h) (Or.inl ⟨by rfl, ?_⟩) ?_ ?_
              rotate_left
              ·intro w'
               go_simp
               with_reducible rfl
              rotate_left
              ·simp only [Act.put, qA, qB, qC, i64_w, i32_w]
               rfl
              refine done_ (done_of HT_.out (by kernel_rfl)) ?_
              try go_wp2
              go_roundg k2
              case measure => have := HJ2.out; have := HK2.out; omega
              case rel => exact ⟨(x26_2), (wrap64 (x26_2 + 1)), (by first | rfl | (simp; done) | (simp [*]; done)), (by first | rfl | (simp; done) | (simp [*]; done)), H', ⟨by have := HJ2.out; have := HK2.out; omega⟩, ⟨yH BK282.out⟩, ⟨yH BK283.out⟩, ⟨zH HB.out⟩⟩
             ·rw [if_neg c34] at H
              have c34b0 : decide (((rd_T45 l0_1 x26_2).f1) < ((rd_T45 l0_1 x7_2).f1)) = false := decide_eq_false c34
              clear c34
              have H' := aM H
              clear H
              have p286 : 0 ≤ (x26_2 : Int) := of_decide_eq_true (by first | (with_reducible assumption) | assumption)
              have q286 : x26_2 < (l0_1.length : Int) := of_decide_eq_true (by first | (with_reducible assumption) | assumption)
              obtain ⟨ad286, e286, hx286_0, hx286_1⟩ := at_T45 HR0_1.out x26_2 p286 q286
              cases e286
              replace hx286_0 := (HB.out.cell (World.block_lt_of_cell? w _ hx286_0)).trans hx286_0
              replace hx286_1 := (HB.out.cell (World.block_lt_of_cell? w _ hx286_1)).trans hx286_1
              replace p286 := eq_true p286
              replace q286 := eq_true q286
              try go_wp2_with (first | ((with_reducible refine gate_dst (N := 9) rfl ?_); refine box_event ?hg (N := 9) ?hd (cs := #[.int .i64 0, .int .i64 0]) (t := 45) ?hr ?_; (case hd => rfl); (case hg => rfl); (case hr => first | (go_simp; done) | (go_simp; rfl)); intro gb287 hg w41 hbox hb; have BK287 := aM (hbox); have GW287 := aM ((by rw [hg]; exact (zZ (zH HB.out)) : w.heap.size ≤ gb287)); have GE287 := aM ((by rw [hg]; exact (zZ (zH HB.out)) : w.heap.size ≤ gb287)); replace HB := aM (zT (zH HB.out) hb); have NB282_287 := nL BK282.out hg; have NB287_282 := nR BK282.out hg; replace BK282 := yK BK282.out hb; have NB283_287 := nL BK283.out hg; have NB287_283 := nR BK283.out hg; replace BK283 := yK BK283.out hb; clear hb hbox hg; have hnb42 := NB287_282.out; have hnc42 := NB282_287.out; have hnb43 := NB287_283.out; have hnc43 := NB283_287.out; have hcz44_0 : w41.cell? ⟨gb287, 0, none⟩ = some (.int .i64 0) := yc BK287.out 0; have hcz44_1 : w41.cell? ⟨gb287, 1, none⟩ = some (.int .i64 0) := yc BK287.out 1; have hfz44_0 := yZ BK287.out 0; have hfz44_1 := yZ BK287.out 1))
              have n0_ : Aside0 (((w41.setCell ⟨gb287, 0, none⟩ (.int .i64 ((rd_T45 l0_1 x26_2).f0))).setCell ⟨gb287, 1, none⟩ (.int .i64 ((rd_T45 l0_1 x26_2).f1))).heap[gb282]? = some (.cells #[.int .i64 a0_0, .slice (some ad286) l0_1.length c0_1, .slice A0_2 l0_2.length c0_2] 28 (0, 0))) := ⟨by (with_reducible repeat (first | refine yN ?_ _ | refine yD ?_ | refine yA ?_ _)); refine yF ?_ NB282_287.out _; (with_reducible repeat (first | refine yN ?_ _ | refine yD ?_ | refine yA ?_ _)); refine yF ?_ NB282_287.out _; (with_reducible repeat (first | refine yN ?_ _ | refine yD ?_ | refine yA ?_ _)); exact BK282.out⟩
              have n1_ : Aside0 (((w41.setCell ⟨gb287, 0, none⟩ (.int .i64 ((rd_T45 l0_1 x26_2).f0))).setCell ⟨gb287, 1, none⟩ (.int .i64 ((rd_T45 l0_1 x26_2).f1))).heap[gb283]? = some (.cells #[.int .i64 0, .slice none 0 0, .slice none 0 0] 28 (0, 0))) := ⟨by (with_reducible repeat (first | refine yN ?_ _ | refine yD ?_ | refine yA ?_ _)); refine yF ?_ NB283_287.out _; (with_reducible repeat (first | refine yN ?_ _ | refine yD ?_ | refine yA ?_ _)); refine yF ?_ NB283_287.out _; (with_reducible repeat (first | refine yN ?_ _ | refine yD ?_ | refine yA ?_ _)); exact BK283.out⟩
              have n2_ : Aside0 (((w41.setCell ⟨gb287, 0, none⟩ (.int .i64 ((rd_T45 l0_1 x26_2).f0))).setCell ⟨gb287, 1, none⟩ (.int .i64 ((rd_T45 l0_1 x26_2).f1))).heap[gb287]? = some (.cells #[.int .i64 ((rd_T45 l0_1 x26_2).f0), .int .i64 ((rd_T45 l0_1 x26_2).f1)] 45 (0, 0))) := ⟨by (with_reducible repeat (first | refine yN ?_ _ | refine yD ?_ | refine yA ?_ _)); refine yP (cs := #[.int .i64 ((rd_T45 l0_1 x26_2).f0), .int .i64 0]) ?_ 1 _ rfl; (with_reducible repeat (first | refine yN ?_ _ | refine yD ?_ | refine yA ?_ _)); refine yP (cs := #[.int .i64 0, .int .i64 0]) ?_ 0 _ rfl; (with_reducible repeat (first | refine yN ?_ _ | refine yD ?_ | refine yA ?_ _)); exact BK287.out⟩
              have n3_ : Aside0 (Below w.heap.size w ((w41.setCell ⟨gb287, 0, none⟩ (.int .i64 ((rd_T45 l0_1 x26_2).f0))).setCell ⟨gb287, 1, none⟩ (.int .i64 ((rd_T45 l0_1 x26_2).f1)))) := ⟨zH HB.out⟩
              (try clear BK282); (try clear BK283); (try clear BK287); (try clear HB)
              generalize ((w41.setCell ⟨gb287, 0, none⟩ (.int .i64 ((rd_T45 l0_1 x26_2).f0))).setCell ⟨gb287, 1, none⟩ (.int .i64 ((rd_T45 l0_1 x26_2).f1))) = w45 at n0_ n1_ n2_ n3_ ⊢
              have BK282 := n0_
              have BK283 := n1_
              have BK287 := n2_
              have HB := n3_
              clear n0_ n1_ n2_ n3_
              replace BK282 := aM (yD BK282.out)
              replace BK283 := aM (yD BK283.out)
              replace BK287 := aM (yD BK287.out)
              replace HB := aM (zD HB.out)
              have p288 : 0 ≤ (x7_2 : Int) := of_decide_eq_true (by first | (with_reducible assumption) | assumption)
              have q288 : x7_2 < (l0_1.length : Int) := of_decide_eq_true (by first | (with_reducible assumption) | assumption)
              obtain ⟨ad288, e288, hx288_0, hx288_1⟩ := at_T45 HR0_1.out x7_2 p288 q288
              have hw288_1 := hx288_1
              have hw288_0 := hx288_0
              obtain rfl : ad286 = ad288 := (by injection e288)
              replace hx288_0 := (HB.out.cell (World.block_lt_of_cell? w _ hx288_0)).trans hx288_0
              replace hx288_1 := (HB.out.cell (World.block_lt_of_cell? w _ hx288_1)).trans hx288_1
              replace p288 := eq_true p288
              replace q288 := eq_true q288
              refine start_ (n := 19) (S := fun w' => w'.cell? ⟨gb287, 0, none⟩ = some (.int .i64 ((rd_T45 l0_1 x26_2).f0)) ∧ w'.cell? ⟨gb287, 1, none⟩ = some (.int .i64 ((rd_T45 l0_1 x26_2).f1)) ∧ w'.cell? ⟨gb282, 0, none⟩ = some (.int .i64 a0_0) ∧ w'.cell? ⟨gb282, 1, none⟩ = some (.slice (some ad286) l0_1.length c0_1) ∧ w'.cell? ⟨gb282, 2, none⟩ = some (.slice A0_2 l0_2.length c0_2) ∧ w'.cell? (ad286.add ((x7_2).toNat * 2)) = some (.int .i64 ((rd_T45 l0_1 x7_2).f0)) ∧ w'.cell? ⟨(ad286.add ((x7_2).toNat * 2)).block, (ad286.add ((x7_2).toNat * 2)).off + 1, none⟩ = some (.int .i64 ((rd_T45 l0_1 x7_2).f1))) (ds := []) #[fF,fF,fF,fF,fF,fF,fF,fF,fF,fF,fF,fF,fF,fF,fF,fF,fF,fF,fF] (by kernel_rfl) rfl rfl ⟨yc BK287.out 0, yc BK287.out 1, yc BK282.out 0, yc BK282.out 1, yc BK282.out 2, ((HB.out.cell (World.block_lt_of_cell? w _ hw288_0)).trans hw288_0), ((HB.out.cell (World.block_lt_of_cell? w _ hw288_1)).trans hw288_1)⟩ (fun hHeld => ?_); refine with_tabW impl_TakeBlock.tab7 impl_TakeBlock.bits7 (fun HT_ HW_ => ?_)
              generalize w45.drew = w46 at BK282 BK283 BK287 HB hx288_0 hx288_1 hHeld ⊢
              refine pure_ (i := 0) (N := some 31) (v := ?_) (a' := ?_) #[tT,fF,fF,fF,fF,fF,fF,fF,fF,fF,fF,fF,fF,fF,fF,fF,fF,fF,fF] rfl rfl (any_of HT_.out (by kernel_rfl)) (fun _ _ _ h => h) (Or.inl ⟨by rfl, ?_⟩) ?_ ?_
              rotate_left
              ·intro w'
               go_simp
               with_reducible rfl
              rotate_left
              ·simp only [Act.put, qA, qB, qC, i64_w, i32_w]
               rfl
              refine pure_ (i := 2) (N := some 33) (v := ?_) (a' := ?_) #[tT,fF,tT,fF,fF,fF,fF,fF,fF,fF,fF,fF,fF,fF,fF,fF,fF,fF,fF] rfl rfl (any_of HT_.out (by kernel_rfl)) (fun _ _ _ h => h) (Or.inl ⟨by rfl, ?_⟩) ?_ ?_
              rotate_left
              ·intro w'
               go_simp
               with_reducible rfl
              rotate_left
              ·simp only [Act.put, qA, qB, qC, i64_w, i32_w]
               rfl
              refine take_ (i := 1) (N := some 32) (v := ?_) (a' := ?_) #[tT,tT,tT,fF,fF,fF,fF,fF,fF,fF,fF,fF,fF,fF,fF,fF,fF,fF,fF] rfl rfl (take_ofW HT_.out HW_.out (by kernel_rfl)) (fun _ _ _ h => h) (Or.inl ⟨by rfl, ?_⟩) hHeld ?_ ?_
              rotate_left
              ·rintro w' ⟨s0, s1, s2, s3, s4, s5, s6⟩
               go_simp
               with_reducible rfl
              rotate_left
              ·simp only [Act.put, qA, qB, qC, i64_w, i32_w]
               rfl
              refine pure_ (i := 3) (N := some 34) (v := ?_) (a' := ?_) #[tT,tT,tT,tT,fF,fF,fF,fF,fF,fF,fF,fF,fF,fF,fF,fF,fF,fF,fF] rfl rfl (any_of HT_.out (by kernel_rfl)) (fun _ _ _ h => h) (Or.inl ⟨by rfl, ?_⟩) ?_ ?_
              rotate_left
              ·intro w'
               go_simp
               with_reducible rfl
              rotate_left
              ·simp only [Act.put, qA, qB, qC, i64_w, i32_w]
               rfl
              refine pure_ (i := 4) (N := some 35) (v := ?_) (a' := ?_) #[tT,tT,tT,tT,tT,fF,fF,fF,fF,fF,fF,fF,fF,fF,fF,fF,fF,fF,fF] rfl rfl (any_of HT_.out (by kernel_rfl)) (fun _ _ _ h => h) (Or.inl ⟨by rfl, ?_⟩) ?_ ?_
              rotate_left
              ·intro w'
               go_simp
               with_reducible rfl
              rotate_left
              ·simp only [Act.put, qA, qB, qC, i64_w, i32_w]
               rfl
              refine pure_ (i := 5) (N := some 36) (v := ?_) (a' := ?_) #[tT,tT,tT,tT,tT,tT,fF,fF,fF,fF,fF,fF,fF,fF,fF,fF,fF,fF,fF] rfl rfl (any_of HT_.out (by kernel_rfl)) (fun _ _ _ h => h) (Or.inl ⟨by rfl, ?_⟩) ?_ ?_
              rotate_left
              ·intro w'
               go_simp
               with_reducible rfl
              rotate_left
              ·simp only [Act.put, qA, qB, qC, i64_w, i32_w]
               rfl
              refine pure_ (i := 6) (N := some 37) (v := ?_) (a' := ?_) #[tT,tT,tT,tT,tT,tT,tT,fF,fF,fF,fF,fF,fF,fF,fF,fF,fF,fF,fF] rfl rfl (any_of HT_.out (by kernel_rfl)) (fun _ _ _ h => h) (Or.inl ⟨by rfl, ?_⟩) ?_ ?_
              rotate_left
              ·intro w'
               go_simp
               with_reducible rfl
              rotate_left
              ·simp only [Act.put, qA, qB, qC, i64_w, i32_w]
               rfl
              refine pure_ (i := 7) (N := some 38) (v := ?_) (a' := ?_) #[tT,tT,tT,tT,tT,tT,tT,tT,fF,fF,fF,fF,fF,fF,fF,fF,fF,fF,fF] rfl rfl (any_of HT_.out (by kernel_rfl)) (fun _ _ _ h => h) (Or.inl ⟨by rfl, ?_⟩) ?_ ?_
              rotate_left
              ·intro w'
               go_simp
               with_reducible rfl
              rotate_left
              ·simp only [Act.put, qA, qB, qC, i64_w, i32_w]
               rfl
              refine pure_ (i := 8) (N := some 39) (v := ?_) (a' := ?_) #[tT,tT,tT,tT,tT,tT,tT,tT,tT,fF,fF,fF,fF,fF,fF,fF,fF,fF,fF] rfl rfl (any_of HT_.out (by kernel_rfl)) (fun _ _ _ h => h) (Or.inl ⟨by rfl, ?_⟩) ?_ ?_
              rotate_left
              ·intro w'
               go_simp
               with_reducible rfl
              rotate_left
              ·simp only [Act.put, qA, qB, qC, i64_w, i32_w]
               rfl
              refine pure_ (i := 10) (N := some 41) (v := ?_) (a' := ?_) #[tT,tT,tT,tT,tT,tT,tT,tT,tT,fF,tT,fF,fF,fF,fF,fF,fF,fF,fF] rfl rfl (any_of HT_.out (by kernel_rfl)) (fun _ _ _ h => h) (Or.inl ⟨by rfl, ?_⟩) ?_ ?_
              rotate_left
              ·intro w'
               go_simp
               with_reducible rfl
              rotate_left
              ·simp only [Act.put, qA, qB, qC, i64_w, i32_w]
               rfl
              refine pure_ (i := 12) (N := some 43) (v := ?_) (a' := ?_) #[tT,tT,tT,tT,tT,tT,tT,tT,tT,fF,tT,fF,tT,fF,fF,fF,fF,fF,fF] rfl rfl (any_of HT_.out (by kernel_rfl)) (fun _ _ _ h => h) (Or.inl ⟨by rfl, ?_⟩) ?_ ?_
              rotate_left
              ·intro w'
               go_simp
               with_reducible rfl
              rotate_left
              ·simp only [Act.put, qA, qB, qC, i64_w, i32_w]
               rfl
              refine take_ (i := 9) (N := some 40) (v := ?_) (a' := ?_) #[tT,tT,tT,tT,tT,tT,tT,tT,tT,tT,tT,fF,tT,fF,fF,fF,fF,fF,fF] rfl rfl (take_ofW HT_.out HW_.out (by kernel_rfl)) (fun _ _ _ h => h) (Or.inl ⟨by rfl, ?_⟩) hHeld ?_ ?_
              rotate_left
              ·rintro w' ⟨s0, s1, s2, s3, s4, s5, s6⟩
               go_simp
               with_reducible rfl
              rotate_left
              ·simp only [Act.put, qA, qB, qC, i64_w, i32_w]
               rfl
              refine take_ (i := 11) (N := some 42) (v := ?_) (a' := ?_) #[tT,tT,tT,tT,tT,tT,tT,tT,tT,tT,tT,tT,tT,fF,fF,fF,fF,fF,fF] rfl rfl (take_ofW HT_.out HW_.out (by kernel_rfl)) (fun _ _ _ h => h) (Or.inl ⟨by rfl, ?_⟩) hHeld ?_ ?_
              rotate_left
              ·rintro w' ⟨s0, s1, s2, s3, s4, s5, s6⟩
               go_simp
               with_reducible rfl
              rotate_left
              ·simp only [Act.put, qA, qB, qC, i64_w, i32_w]
               rfl
              refine pure_ (i := 13) (N := some 44) (v := ?_) (a' := ?_) #[tT,tT,tT,tT,tT,tT,tT,tT,tT,tT,tT,tT,tT,tT,fF,fF,fF,fF,fF] rfl rfl (any_of HT_.out (by kernel_rfl)) (fun _ _ _ h => h) (Or.inl ⟨by rfl, ?_⟩) ?_ ?_
              rotate_left
              ·intro w'
               go_simp
               with_reducible rfl
              rotate_left
              ·simp only [Act.put, qA, qB, qC, i64_w, i32_w]
               rfl
              refine pure_ (i := 14) (N := some 45) (v := ?_) (a' := ?_) #[tT,tT,tT,tT,tT,tT,tT,tT,tT,tT,tT,tT,tT,tT,tT,fF,fF,fF,fF] rfl rfl (any_of HT_.out (by kernel_rfl)) (fun _ _ _ h => h) (Or.inl ⟨by rfl, ?_⟩) ?_ ?_
              rotate_left
              ·intro w'
               go_simp
               with_reducible rfl
              rotate_left
              ·simp only [Act.put, qA, qB, qC, i64_w, i32_w]
               rfl
              refine take_ (i := 15) (N := some 46) (v := ?_) (a' := ?_) #[tT,tT,tT,tT,tT,tT,tT,tT,tT,tT,tT,tT,tT,tT,tT,tT,fF,fF,fF] rfl rfl (take_ofW HT_.out HW_.out (by kernel_rfl)) (fun _ _ _ h => h) (Or.inl ⟨by rfl, ?_⟩) hHeld ?_ ?_
              rotate_left
              ·rintro w' ⟨s0, s1, s2, s3, s4, s5, s6⟩
               go_simp
               with_reducible rfl
              rotate_left
              ·simp only [Act.put, qA, qB, qC, i64_w, i32_w]
               rfl
              refine pure_ (i := 16) (N := some 47) (v := ?_) (a' := ?_) #[tT,tT,tT,tT,tT,tT,tT,tT,tT,tT,tT,tT,tT,tT,tT,tT,tT,fF,fF] rfl rfl (any_of HT_.out (by kernel_rfl)) (fun _ _ _ h => h) (Or.inl ⟨by rfl, ?_⟩) ?_ ?_
              rotate_left
              ·intro w'
               go_simp
               with_reducible rfl
              rotate_left
              ·simp only [Act.put, qA, qB, qC, i64_w, i32_w]
               rfl
              refine pure_ (i := 17) (N := some 48) (v := ?_) (a' := ?_) #[tT,tT,tT,tT,tT,tT,tT,tT,tT,tT,tT,tT,tT,tT,tT,tT,tT,tT,fF] rfl rfl (any_of HT_.out (by kernel_rfl)) (fun _ _ _ h => h) (Or.inl ⟨by rfl, ?_⟩) ?_ ?_
              rotate_left
              ·intro w'
               go_simp
               with_reducible rfl
              rotate_left
              ·simp only [Act.put, qA, qB, qC, i64_w, i32_w]
               rfl
              refine pure_ (i := 18) (N := some 49) (v := ?_) (a' := ?_) #[tT,tT,tT,tT,tT,tT,tT,tT,tT,tT,tT,tT,tT,tT,tT,tT,tT,tT,tT] rfl rfl (any_of HT_.out (by kernel_rfl)) (fun _ _ _ h => h) (Or.inl ⟨by rfl, ?_⟩) ?_ ?_
              rotate_left
              ·intro w'
               go_simp
               with_reducible rfl
              rotate_left
              ·simp only [Act.put, qA, qB, qC, i64_w, i32_w]
               rfl
              refine done_ (done_of HT_.out (by kernel_rfl)) ?_
              try go_wp2
              go_roundg k2
              case measure => have := HJ2.out; have := HK2.out; omega
              case rel => exact ⟨(x7_2), (wrap64 (x26_2 + 1)), (by first | rfl | (simp; done) | (simp [*]; done)), (by first | rfl | (simp; done) | (simp [*]; done)), H', ⟨by have := HJ2.out; have := HK2.out; omega⟩, ⟨yH BK282.out⟩, ⟨yH BK283.out⟩, ⟨zH HB.out⟩⟩
            ·rw [if_neg c33] at H
             exact absurd H (by simp)
           ·rw [if_neg c32] at H
            exact absurd H (by simp)
         ·rw [if_neg c24] at H
          have c24b0 : decide (a1 ≤ ((rd_T45 l0_1 x26_2).f1)) = false := decide_eq_false c24
          clear c24
          have H' := aM H
          clear H
          have p286 : 0 ≤ (x26_2 : Int) := of_decide_eq_true (by first | (with_reducible assumption) | assumption)
          have q286 : x26_2 < (l0_1.length : Int) := of_decide_eq_true (by first | (with_reducible assumption) | assumption)
          obtain ⟨ad286, e286, hx286_0, hx286_1⟩ := at_T45 HR0_1.out x26_2 p286 q286
          cases e286
          replace hx286_0 := (HB.out.cell (World.block_lt_of_cell? w _ hx286_0)).trans hx286_0
          replace hx286_1 := (HB.out.cell (World.block_lt_of_cell? w _ hx286_1)).trans hx286_1
          replace p286 := eq_true p286
          replace q286 := eq_true q286
          try go_wp2_with (first | ((with_reducible refine gate_dst (N := 9) rfl ?_); refine box_event ?hg (N := 9) ?hd (cs := #[.int .i64 0, .int .i64 0]) (t := 45) ?hr ?_; (case hd => rfl); (case hg => rfl); (case hr => first | (go_simp; done) | (go_simp; rfl)); intro gb287 hg w47 hbox hb; have BK287 := aM (hbox); have GW287 := aM ((by rw [hg]; exact (zZ (zH HB.out)) : w.heap.size ≤ gb287)); have GE287 := aM ((by rw [hg]; exact (zZ (zH HB.out)) : w.heap.size ≤ gb287)); replace HB := aM (zT (zH HB.out) hb); have NB282_287 := nL BK282.out hg; have NB287_282 := nR BK282.out hg; replace BK282 := yK BK282.out hb; have NB283_287 := nL BK283.out hg; have NB287_283 := nR BK283.out hg; replace BK283 := yK BK283.out hb; clear hb hbox hg; have hnb48 := NB287_282.out; have hnc48 := NB282_287.out; have hnb49 := NB287_283.out; have hnc49 := NB283_287.out; have hcz50_0 : w47.cell? ⟨gb287, 0, none⟩ = some (.int .i64 0) := yc BK287.out 0; have hcz50_1 : w47.cell? ⟨gb287, 1, none⟩ = some (.int .i64 0) := yc BK287.out 1; have hfz50_0 := yZ BK287.out 0; have hfz50_1 := yZ BK287.out 1))
          have n0_ : Aside0 (((w47.setCell ⟨gb287, 0, none⟩ (.int .i64 ((rd_T45 l0_1 x26_2).f0))).setCell ⟨gb287, 1, none⟩ (.int .i64 ((rd_T45 l0_1 x26_2).f1))).heap[gb282]? = some (.cells #[.int .i64 a0_0, .slice (some ad286) l0_1.length c0_1, .slice A0_2 l0_2.length c0_2] 28 (0, 0))) := ⟨by (with_reducible repeat (first | refine yN ?_ _ | refine yD ?_ | refine yA ?_ _)); refine yF ?_ NB282_287.out _; (with_reducible repeat (first | refine yN ?_ _ | refine yD ?_ | refine yA ?_ _)); refine yF ?_ NB282_287.out _; (with_reducible repeat (first | refine yN ?_ _ | refine yD ?_ | refine yA ?_ _)); exact BK282.out⟩
          have n1_ : Aside0 (((w47.setCell ⟨gb287, 0, none⟩ (.int .i64 ((rd_T45 l0_1 x26_2).f0))).setCell ⟨gb287, 1, none⟩ (.int .i64 ((rd_T45 l0_1 x26_2).f1))).heap[gb283]? = some (.cells #[.int .i64 0, .slice none 0 0, .slice none 0 0] 28 (0, 0))) := ⟨by (with_reducible repeat (first | refine yN ?_ _ | refine yD ?_ | refine yA ?_ _)); refine yF ?_ NB283_287.out _; (with_reducible repeat (first | refine yN ?_ _ | refine yD ?_ | refine yA ?_ _)); refine yF ?_ NB283_287.out _; (with_reducible repeat (first | refine yN ?_ _ | refine yD ?_ | refine yA ?_ _)); exact BK283.out⟩
          have n2_ : Aside0 (((w47.setCell ⟨gb287, 0, none⟩ (.int .i64 ((rd_T45 l0_1 x26_2).f0))).setCell ⟨gb287, 1, none⟩ (.int .i64 ((rd_T45 l0_1 x26_2).f1))).heap[gb287]? = some (.cells #[.int .i64 ((rd_T45 l0_1 x26_2).f0), .int .i64 ((rd_T45 l0_1 x26_2).f1)] 45 (0, 0))) := ⟨by (with_reducible repeat (first | refine yN ?_ _ | refine yD ?_ | refine yA ?_ _)); refine yP (cs := #[.int .i64 ((rd_T45 l0_1 x26_2).f0), .int .i64 0]) ?_ 1 _ rfl; (with_reducible repeat (first | refine yN ?_ _ | refine yD ?_ | refine yA ?_ _)); refine yP (cs := #[.int .i64 0, .int .i64 0]) ?_ 0 _ rfl; (with_reducible repeat (first | refine yN ?_ _ | refine yD ?_ | refine yA ?_ _)); exact BK287.out⟩
          have n3_ : Aside0 (Below w.heap.size w ((w47.setCell ⟨gb287, 0, none⟩ (.int .i64 ((rd_T45 l0_1 x26_2).f0))).setCell ⟨gb287, 1, none⟩ (.int .i64 ((rd_T45 l0_1 x26_2).f1)))) := ⟨zH HB.out⟩
          (try clear BK282); (try clear BK283); (try clear BK287); (try clear HB)
          generalize ((w47.setCell ⟨gb287, 0, none⟩ (.int .i64 ((rd_T45 l0_1 x26_2).f0))).setCell ⟨gb287, 1, none⟩ (.int .i64 ((rd_T45 l0_1 x26_2).f1))) = w51 at n0_ n1_ n2_ n3_ ⊢
          have BK282 := n0_
          have BK283 := n1_
          have BK287 := n2_
          have HB := n3_
          clear n0_ n1_ n2_ n3_
          replace BK282 := aM (yD BK282.out)
          replace BK283 := aM (yD BK283.out)
          replace BK287 := aM (yD BK287.out)
          replace HB := aM (zD HB.out)
          refine start_ (n := 19) (S := fun w' => w'.cell? ⟨gb287, 0, none⟩ = some (.int .i64 ((rd_T45 l0_1 x26_2).f0)) ∧ w'.cell? ⟨gb287, 1, none⟩ = some (.int .i64 ((rd_T45 l0_1 x26_2).f1))) (ds := []) #[fF,fF,fF,fF,fF,fF,fF,fF,fF,fF,fF,fF,fF,fF,fF,fF,fF,fF,fF] (by kernel_rfl) rfl rfl ⟨yc BK287.out 0, yc BK287.out 1⟩ (fun hHeld => ?_); refine with_tabW impl_TakeBlock.tab7 impl_TakeBlock.bits7 (fun HT_ HW_ => ?_)
          generalize w51.drew = w52 at BK282 BK283 BK287 HB hHeld ⊢
          refine pure_ (i := 0) (N := some 31) (v := ?_) (a' := ?_) #[tT,fF,fF,fF,fF,fF,fF,fF,fF,fF,fF,fF,fF,fF,fF,fF,fF,fF,fF] rfl rfl (any_of HT_.out (by kernel_rfl)) (fun _ _ _ h => h) (Or.inl ⟨by rfl, ?_⟩) ?_ ?_
          rotate_left
          ·intro w'
           go_simp
           with_reducible rfl
          rotate_left
          ·simp only [Act.put, qA, qB, qC, i64_w, i32_w]
           rfl
          refine pure_ (i := 2) (N := some 33) (v := ?_) (a' := ?_) #[tT,fF,tT,fF,fF,fF,fF,fF,fF,fF,fF,fF,fF,fF,fF,fF,fF,fF,fF] rfl rfl (any_of HT_.out (by kernel_rfl)) (fun _ _ _ h => h) (Or.inl ⟨by rfl, ?_⟩) ?_ ?_
          rotate_left
          ·intro w'
           go_simp
           with_reducible rfl
          rotate_left
          ·simp only [Act.put, qA, qB, qC, i64_w, i32_w]
           rfl
          refine take_ (i := 1) (N := some 32) (v := ?_) (a' := ?_) #[tT,tT,tT,fF,fF,fF,fF,fF,fF,fF,fF,fF,fF,fF,fF,fF,fF,fF,fF] rfl rfl (take_ofW HT_.out HW_.out (by kernel_rfl)) (fun _ _ _ h => h) (Or.inl ⟨by rfl, ?_⟩) hHeld ?_ ?_
          rotate_left
          ·rintro w' ⟨s0, s1⟩
           go_simp
           with_reducible rfl
          rotate_left
          ·simp only [Act.put, qA, qB, qC, i64_w, i32_w]
           rfl
          refine pure_ (i := 3) (N := some 34) (v := ?_) (a' := ?_) #[tT,tT,tT,tT,fF,fF,fF,fF,fF,fF,fF,fF,fF,fF,fF,fF,fF,fF,fF] rfl rfl (any_of HT_.out (by kernel_rfl)) (fun _ _ _ h => h) (Or.inl ⟨by rfl, ?_⟩) ?_ ?_
          rotate_left
          ·intro w'
           go_simp
           with_reducible rfl
          rotate_left
          ·simp only [Act.put, qA, qB, qC, i64_w, i32_w]
           rfl
          refine pure_ (i := 4) (N := some 35) (v := ?_) (a' := ?_) #[tT,tT,tT,tT,tT,fF,fF,fF,fF,fF,fF,fF,fF,fF,fF,fF,fF,fF,fF] rfl rfl (any_of HT_.out (by kernel_rfl)) (fun _ _ _ h => h) (Or.inl ⟨by rfl, ?_⟩) ?_ ?_
          rotate_left
          ·intro w'
           go_simp
           with_reducible rfl
          rotate_left
          ·simp only [Act.put, qA, qB, qC, i64_w, i32_w]
           rfl
          refine pure_ (i := 5) (N := some 36) (v := undef) (a' := ?_) #[tT,tT,tT,tT,tT,tT,fF,fF,fF,fF,fF,fF,fF,fF,fF,fF,fF,fF,fF] rfl rfl (any_of HT_.out (by kernel_rfl)) (fun _ _ _ h => h) (Or.inr ⟨by rfl, rfl⟩) ?_ ?_
          rotate_left
          ·simp only [Act.put, qA, qB, qC, i64_w, i32_w]
           rfl
          refine pure_ (i := 6) (N := some 37) (v := undef) (a' := ?_) #[tT,tT,tT,tT,tT,tT,tT,fF,fF,fF,fF,fF,fF,fF,fF,fF,fF,fF,fF] rfl rfl (any_of HT_.out (by kernel_rfl)) (fun _ _ _ h => h) (Or.inr ⟨by rfl, rfl⟩) ?_ ?_
          rotate_left
          ·simp only [Act.put, qA, qB, qC, i64_w, i32_w]
           rfl
          refine pure_ (i := 7) (N := some 38) (v := undef) (a' := ?_) #[tT,tT,tT,tT,tT,tT,tT,tT,fF,fF,fF,fF,fF,fF,fF,fF,fF,fF,fF] rfl rfl (any_of HT_.out (by kernel_rfl)) (fun _ _ _ h => h) (Or.inr ⟨by rfl, rfl⟩) ?_ ?_
          rotate_left
          ·simp only [Act.put, qA, qB, qC, i64_w, i32_w]
           rfl
          refine pure_ (i := 8) (N := some 39) (v := undef) (a' := ?_) #[tT,tT,tT,tT,tT,tT,tT,tT,tT,fF,fF,fF,fF,fF,fF,fF,fF,fF,fF] rfl rfl (any_of HT_.out (by kernel_rfl)) (fun _ _ _ h => h) (Or.inr ⟨by rfl, rfl⟩) ?_ ?_
          rotate_left
          ·simp only [Act.put, qA, qB, qC, i64_w, i32_w]
           rfl
          refine pure_ (i := 9) (N := some 40) (v := undef) (a' := ?_) #[tT,tT,tT,tT,tT,tT,tT,tT,tT,tT,fF,fF,fF,fF,fF,fF,fF,fF,fF] rfl rfl (any_of HT_.out (by kernel_rfl)) (fun _ _ _ h => h) (Or.inr ⟨by rfl, rfl⟩) ?_ ?_
          rotate_left
          ·simp only [Act.put, qA, qB, qC, i64_w, i32_w]
           rfl
          refine pure_ (i := 10) (N := some 41) (v := undef) (a' := ?_) #[tT,tT,tT,tT,tT,tT,tT,tT,tT,tT,tT,fF,fF,fF,fF,fF,fF,fF,fF] rfl rfl (any_of HT_.out (by kernel_rfl)) (fun _ _ _ h => h) (Or.inr ⟨by rfl, rfl⟩) ?_ ?_
          rotate_left
          ·simp only [Act.put, qA, qB, qC, i64_w, i32_w]
           rfl
          refine pure_ (i := 11) (N := some 42) (v := undef) (a' := ?_) #[tT,tT,tT,tT,tT,tT,tT,tT,tT,tT,tT,tT,fF,fF,fF,fF,fF,fF,fF] rfl rfl (any_of HT_.out (by kernel_rfl)) (fun _ _ _ h => h) (Or.inr ⟨by rfl, rfl⟩) ?_ ?_
          rotate_left
          ·simp only [Act.put, qA, qB, qC, i64_w, i32_w]
           rfl
          refine pure_ (i := 12) (N := some 43) (v := undef) (a' := ?_) #[tT,tT,tT,tT,tT,tT,tT,tT,tT,tT,tT,tT,tT,fF,fF,fF,fF,fF,fF] rfl rfl (any_of HT_.out (by kernel_rfl)) (fun _ _ _ h => h) (Or.inr ⟨by rfl, rfl⟩) ?_ ?_
          rotate_left
          ·simp only [Act.put, qA, qB, qC, i64_w, i32_w]
           rfl
          refine pure_ (i := 13) (N := some 44) (v := undef) (a' := ?_) #[tT,tT,tT,tT,tT,tT,tT,tT,tT,tT,tT,tT,tT,tT,fF,fF,fF,fF,fF] rfl rfl (any_of HT_.out (by kernel_rfl)) (fun _ _ _ h => h) (Or.inr ⟨by rfl, rfl⟩) ?_ ?_
          rotate_left
          ·simp only [Act.put, qA, qB, qC, i64_w, i32_w]
           rfl
          refine pure_ (i := 14) (N := some 45) (v := undef) (a' := ?_) #[tT,tT,tT,tT,tT,tT,tT,tT,tT,tT,tT,tT,tT,tT,tT,fF,fF,fF,fF] rfl rfl (any_of HT_.out (by kernel_rfl)) (fun _ _ _ h => h) (Or.inr ⟨by rfl, rfl⟩) ?_ ?_
          rotate_left
          ·simp only [Act.put, qA, qB, qC, i64_w, i32_w]
           rfl
          refine pure_ (i := 15) (N := some 46) (v := undef) (a' := ?_) #[tT,tT,tT,tT,tT,tT,tT,tT,tT,tT,tT,tT,tT,tT,tT,tT,fF,fF,fF] rfl rfl (any_of HT_.out (by kernel_rfl)) (fun _ _ _ h => h) (Or.inr ⟨by rfl, rfl⟩) ?_ ?_
          rotate_left
          ·simp only [Act.put, qA, qB, qC, i64_w, i32_w]
           rfl
          refine pure_ (i := 16) (N := some 47) (v := undef) (a' := ?_) #[tT,tT,tT,tT,tT,tT,tT,tT,tT,tT,tT,tT,tT,tT,tT,tT,tT,fF,fF] rfl rfl (any_of HT_.out (by kernel_rfl)) (fun _ _ _ h => h) (Or.inr ⟨by rfl, rfl⟩) ?_ ?_
          rotate_left
          ·simp only [Act.put, qA, qB, qC, i64_w, i32_w]
           rfl
          refine pure_ (i := 17) (N := some 48) (v := undef) (a' := ?_) #[tT,tT,tT,tT,tT,tT,tT,tT,tT,tT,tT,tT,tT,tT,tT,tT,tT,tT,fF] rfl rfl (any_of HT_.out (by kernel_rfl)) (fun _ _ _ h => h) (Or.inr ⟨by rfl, rfl⟩) ?_ ?_
          rotate_left
          ·simp only [Act.put, qA, qB, qC, i64_w, i32_w]
           rfl
          refine pure_ (i := 18) (N := some 49) (v := ?_) (a' := ?_) #[tT,tT,tT,tT,tT,tT,tT,tT,tT,tT,tT,tT,tT,tT,tT,tT,tT,tT,tT] rfl rfl (any_of HT_.out (by kernel_rfl)) (fun _ _ _ h => h) (Or.inl ⟨by rfl, ?_⟩) ?_ ?_
          rotate_left
          ·intro w'
           go_simp
           with_reducible rfl
          rotate_left
          ·simp only [Act.put, qA, qB, qC, i64_w, i32_w]
           rfl
          refine done_ (done_of HT_.out (by kernel_rfl)) ?_
          try go_wp2
          go_roundg k2
          case measure => have := HJ2.out; have := HK2.out; omega
          case rel => exact ⟨(x7_2), (wrap64 (x26_2 + 1)), (by first | rfl | (simp; done) | (simp [*]; done)), (by first | rfl | (simp; done) | (simp [*]; done)), H', ⟨by have := HJ2.out; have := HK2.out; omega⟩, ⟨yH BK282.out⟩, ⟨yH BK283.out⟩, ⟨zH HB.out⟩⟩
        ·rw [if_neg c23] at H
         exact absurd H (by simp)
       ·rw [if_neg c22] at H
        exact absurd H (by simp)
      ·rw [if_neg c21] at H
       have c21b0 : decide (x26_2 < (l0_1.length : Int)) = false := decide_eq_false c21
       clear c21
       by_cases c53 : x7_2 < 0
       ·rw [if_pos c53] at H
        have c53b0 : decide (x7_2 < 0) = true := decide_eq_true c53
        clear c53
        simp only [Option.some.injEq, Prod.mk.injEq] at H
        obtain ⟨rfl, rfl, rfl, rfl, rfl⟩ := H
        have hnb54 := NB283_282.out
        have hnc54 := NB282_283.out
        have hcz55_0 : wr.cell? ⟨gb283, 0, none⟩ = some (.int .i64 0) := yc BK283.out 0
        have hcz55_1 : wr.cell? ⟨gb283, 1, none⟩ = some (.slice none 0 0) := yc BK283.out 1
        have hcz55_2 : wr.cell? ⟨gb283, 2, none⟩ = some (.slice none 0 0) := yc BK283.out 2
        have hfz55_0 := yZ BK283.out 0
        have hfz55_1 := yZ BK283.out 1
        have hfz55_2 := yZ BK283.out 2
        go_wp2
        refine bodyPost_ret (results_ctt rfl _ _ gb283 28 #[.int .i64 0, .slice none 0 0, .slice none 0 0] (0, 0) _ rfl (by (with_reducible repeat (first | refine yN ?_ _ | refine yD ?_ | refine yA ?_ _)); refine yP (cs := #[.int .i64 0, .slice none 0 0, .slice none 0 0]) ?_ 2 _ rfl; (with_reducible repeat (first | refine yN ?_ _ | refine yD ?_ | refine yA ?_ _)); refine yP (cs := #[.int .i64 0, .slice none 0 0, .slice none 0 0]) ?_ 1 _ rfl; (with_reducible repeat (first | refine yN ?_ _ | refine yD ?_ | refine yA ?_ _)); refine yP (cs := #[.int .i64 0, .slice none 0 0, .slice none 0 0]) ?_ 0 _ rfl; (with_reducible repeat (first | refine yN ?_ _ | refine yD ?_ | refine yA ?_ _)); exact BK283.out) Try.underlying28 rfl (by kernel_rfl)) rfl ?_
        exact ⟨_, _, by first | rfl | (simp [errW_none, errW_some] <;> rfl) | (simp [*, errW_none, errW_some] <;> rfl), by first | exact Kd.R_nil _ _ _ _ _ | exact Kd.N_nil _ _ _ _ _ | exact Kd.V_nil _ _ _ _ _ | exact Kd.Q_nil _ _ _ _ _ | exact Kd.S_nil _ _ _ _ _, by first | exact Kd.R_nil _ _ _ _ _ | exact Kd.N_nil _ _ _ _ _ | exact Kd.V_nil _ _ _ _ _ | exact Kd.Q_nil _ _ _ _ _ | exact Kd.S_nil _ _ _ _ _, zH HB.out⟩
       ·rw [if_neg c53] at H
        have c53b0 : decide (x7_2 < 0) = false := decide_eq_false c53
        clear c53
        by_cases c56 : 0 ≤ x7_2
        ·rw [if_pos c56] at H
         have c56b0 : decide (0 ≤ x7_2) = true := decide_eq_true c56
         clear c56
         by_cases c57 : x7_2 < (l0_1.length : Int)
         ·rw [if_pos c57] at H
          have c57b0 : decide (x7_2 < (l0_1.length : Int)) = true := decide_eq_true c57
          clear c57
          replace H := Option.bind_eq_some_iff.mp H
          obtain ⟨t291, A580, H⟩ := H
          replace H : (impl_TakeBlock.l1 k2 a1 a0_0 l0_1 l0_2 ((rd_T45 l0_1 x7_2).f0) ((rd_T45 l0_1 x7_2).f1) a0_0 t291) = some (r1, r2, r3, r4, r5) := H
          have A58 := aM A580
          clear A580
          have H' := aM H
          clear H
          have hnb59 := NB282_283.out
          have hnc59 := NB283_282.out
          have hcz60_0 : wr.cell? ⟨gb282, 0, none⟩ = some (.int .i64 a0_0) := yc BK282.out 0
          have hcz60_1 : wr.cell? ⟨gb282, 1, none⟩ = some (.slice A0_1 l0_1.length c0_1) := yc BK282.out 1
          have hcz60_2 : wr.cell? ⟨gb282, 2, none⟩ = some (.slice A0_2 l0_2.length c0_2) := yc BK282.out 2
          have hfz60_0 := yZ BK282.out 0
          have hfz60_1 := yZ BK282.out 1
          have hfz60_2 := yZ BK282.out 2
          have p289 : 0 ≤ (x7_2 : Int) := of_decide_eq_true (by first | (with_reducible assumption) | assumption)
          have q289 : x7_2 < (l0_1.length : Int) := of_decide_eq_true (by first | (with_reducible assumption) | assumption)
          obtain ⟨ad289, e289, hx289_0, hx289_1⟩ := at_T45 HR0_1.out x7_2 p289 q289
          cases e289
          replace hx289_0 := (HB.out.cell (World.block_lt_of_cell? w _ hx289_0)).trans hx289_0
          replace hx289_1 := (HB.out.cell (World.block_lt_of_cell? w _ hx289_1)).trans hx289_1
          replace p289 := eq_true p289
          replace q289 := eq_true q289
          try go_wp2_with (first | ((with_reducible refine gate_dst (N := 10) rfl ?_); refine box_event ?hg (N := 10) ?hd (cs := #[.int .i64 0, .int .i64 0]) (t := 45) ?hr ?_; (case hd => rfl); (case hg => rfl); (case hr => first | (go_simp; done) | (go_simp; rfl)); intro gb290 hg w61 hbox hb; have BK290 := aM (hbox); have GW290 := aM ((by rw [hg]; exact (zZ (zH HB.out)) : w.heap.size ≤ gb290)); have GE290 := aM ((by rw [hg]; exact (zZ (zH HB.out)) : w.heap.size ≤ gb290)); replace HB := aM (zT (zH HB.out) hb); have NB282_290 := nL BK282.out hg; have NB290_282 := nR BK282.out hg; replace BK282 := yK BK282.out hb; have NB283_290 := nL BK283.out hg; have NB290_283 := nR BK283.out hg; replace BK283 := yK BK283.out hb; clear hb hbox hg; have hnb62 := NB290_282.out; have hnc62 := NB282_290.out; have hnb63 := NB290_283.out; have hnc63 := NB283_290.out; have hcz64_0 : w61.cell? ⟨gb290, 0, none⟩ = some (.int .i64 0) := yc BK290.out 0; have hcz64_1 : w61.cell? ⟨gb290, 1, none⟩ = some (.int .i64 0) := yc BK290.out 1; have hfz64_0 := yZ BK290.out 0; have hfz64_1 := yZ BK290.out 1))
          have n0_ : Aside0 (((w61.setCell ⟨gb290, 0, none⟩ (.int .i64 ((rd_T45 l0_1 x7_2).f0))).setCell ⟨gb290, 1, none⟩ (.int .i64 ((rd_T45 l0_1 x7_2).f1))).heap[gb282]? = some (.cells #[.int .i64 a0_0, .slice (some ad289) l0_1.length c0_1, .slice A0_2 l0_2.length c0_2] 28 (0, 0))) := ⟨by (with_reducible repeat (first | refine yN ?_ _ | refine yD ?_ | refine yA ?_ _)); refine yF ?_ NB282_290.out _; (with_reducible repeat (first | refine yN ?_ _ | refine yD ?_ | refine yA ?_ _)); refine yF ?_ NB282_290.out _; (with_reducible repeat (first | refine yN ?_ _ | refine yD ?_ | refine yA ?_ _)); exact BK282.out⟩
          have n1_ : Aside0 (((w61.setCell ⟨gb290, 0, none⟩ (.int .i64 ((rd_T45 l0_1 x7_2).f0))).setCell ⟨gb290, 1, none⟩ (.int .i64 ((rd_T45 l0_1 x7_2).f1))).heap[gb283]? = some (.cells #[.int .i64 0, .slice none 0 0, .slice none 0 0] 28 (0, 0))) := ⟨by (with_reducible repeat (first | refine yN ?_ _ | refine yD ?_ | refine yA ?_ _)); refine yF ?_ NB283_290.out _; (with_reducible repeat (first | refine yN ?_ _ | refine yD ?_ | refine yA ?_ _)); refine yF ?_ NB283_290.out _; (with_reducible repeat (first | refine yN ?_ _ | refine yD ?_ | refine yA ?_ _)); exact BK283.out⟩
          have n2_ : Aside0 (((w61.setCell ⟨gb290, 0, none⟩ (.int .i64 ((rd_T45 l0_1 x7_2).f0))).setCell ⟨gb290, 1, none⟩ (.int .i64 ((rd_T45 l0_1 x7_2).f1))).heap[gb290]? = some (.cells #[.int .i64 ((rd_T45 l0_1 x7_2).f0), .int .i64 ((rd_T45 l0_1 x7_2).f1)] 45 (0, 0))) := ⟨by (with_reducible repeat (first | refine yN ?_ _ | refine yD ?_ | refine yA ?_ _)); refine yP (cs := #[.int .i64 ((rd_T45 l0_1 x7_2).f0), .int .i64 0]) ?_ 1 _ rfl; (with_reducible repeat (first | refine yN ?_ _ | refine yD ?_ | refine yA ?_ _)); refine yP (cs := #[.int .i64 0, .int .i64 0]) ?_ 0 _ rfl; (with_reducible repeat (first | refine yN ?_ _ | refine yD ?_ | refine yA ?_ _)); exact BK290.out⟩
          have n3_ : Aside0 (Below w.heap.size w ((w61.setCell ⟨gb290, 0, none⟩ (.int .i64 ((rd_T45 l0_1 x7_2).f0))).setCell ⟨gb290, 1, none⟩ (.int .i64 ((rd_T45 l0_1 x7_2).f1)))) := ⟨zH HB.out⟩
          (try clear BK282); (try clear BK283); (try clear BK290); (try clear HB)
          generalize ((w61.setCell ⟨gb290, 0, none⟩ (.int .i64 ((rd_T45 l0_1 x7_2).f0))).setCell ⟨gb290, 1, none⟩ (.int .i64 ((rd_T45 l0_1 x7_2).f1))) = w65 at n0_ n1_ n2_ n3_ ⊢
          have BK282 := n0_
          have BK283 := n1_
          have BK290 := n2_
          have HB := n3_
          clear n0_ n1_ n2_ n3_
          replace BK282 := aM (yD BK282.out)
          replace BK283 := aM (yD BK283.out)
          replace BK290 := aM (yD BK290.out)
          replace HB := aM (zD HB.out)
          refine start_ (n := 9) (S := fun w' => w'.cell? ⟨gb282, 0, none⟩ = some (.int .i64 a0_0) ∧ w'.cell? ⟨gb282, 1, none⟩ = some (.slice (some ad289) l0_1.length c0_1) ∧ w'.cell? ⟨gb282, 2, none⟩ = some (.slice A0_2 l0_2.length c0_2) ∧ w'.cell? ⟨gb290, 0, none⟩ = some (.int .i64 ((rd_T45 l0_1 x7_2).f0)) ∧ w'.cell? ⟨gb290, 1, none⟩ = some (.int .i64 ((rd_T45 l0_1 x7_2).f1))) (ds := []) #[fF,fF,fF,fF,fF,fF,fF,fF,fF] (by kernel_rfl) rfl rfl ⟨yc BK282.out 0, yc BK282.out 1, yc BK282.out 2, yc BK290.out 0, yc BK290.out 1⟩ (fun hHeld => ?_); refine with_tabW impl_TakeBlock.tab13 impl_TakeBlock.bits13 (fun HT_ HW_ => ?_)
          generalize w65.drew = w66 at BK282 BK283 BK290 HB hHeld ⊢
          refine pure_ (i := 0) (N := some 60) (v := ?_) (a' := ?_) #[tT,fF,fF,fF,fF,fF,fF,fF,fF] rfl rfl (any_of HT_.out (by kernel_rfl)) (fun _ _ _ h => h) (Or.inl ⟨by rfl, ?_⟩) ?_ ?_
          rotate_left
          ·intro w'
           go_simp
           with_reducible rfl
          rotate_left
          ·simp only [Act.put, qA, qB, qC, i64_w, i32_w]
           rfl
          refine pure_ (i := 2) (N := some 62) (v := ?_) (a' := ?_) #[tT,fF,tT,fF,fF,fF,fF,fF,fF] rfl rfl (any_of HT_.out (by kernel_rfl)) (fun _ _ _ h => h) (Or.inl ⟨by rfl, ?_⟩) ?_ ?_
          rotate_left
          ·intro w'
           go_simp
           with_reducible rfl
          rotate_left
          ·simp only [Act.put, qA, qB, qC, i64_w, i32_w]
           rfl
          refine take_ (i := 1) (N := some 61) (v := ?_) (a' := ?_) #[tT,tT,tT,fF,fF,fF,fF,fF,fF] rfl rfl (take_ofW HT_.out HW_.out (by kernel_rfl)) (fun _ _ _ h => h) (Or.inl ⟨by rfl, ?_⟩) hHeld ?_ ?_
          rotate_left
          ·rintro w' ⟨s0, s1, s2, s3, s4⟩
           go_simp
           with_reducible rfl
          rotate_left
          ·simp only [Act.put, qA, qB, qC, i64_w, i32_w]
           rfl
          refine take_ (i := 3) (N := some 63) (v := ?_) (a' := ?_) #[tT,tT,tT,tT,fF,fF,fF,fF,fF] rfl rfl (take_ofW HT_.out HW_.out (by kernel_rfl)) (fun _ _ _ h => h) (Or.inl ⟨by rfl, ?_⟩) hHeld ?_ ?_
          rotate_left
          ·rintro w' ⟨s0, s1, s2, s3, s4⟩
           go_simp
           with_reducible rfl
          rotate_left
          ·simp only [Act.put, qA, qB, qC, i64_w, i32_w]
           rfl
          refine take_ (i := 4) (N := some 64) (v := ?_) (a' := ?_) #[tT,tT,tT,tT,tT,fF,fF,fF,fF] rfl rfl (take_ofW HT_.out HW_.out (by kernel_rfl)) (fun _ _ _ h => h) (Or.inl ⟨by rfl, ?_⟩) hHeld ?_ ?_
          rotate_left
          ·rintro w' ⟨s0, s1, s2, s3, s4⟩
           go_simp
           with_reducible rfl
          rotate_left
          ·simp only [Act.put, qA, qB, qC, i64_w, i32_w]
           rfl
          refine join_ (σ := Value × Nat) 1 #[tT,tT,tT,tT,tT,tT,tT,tT,fF] (fun s_ => [(65, s_.1), (11, .pointer (some ⟨s_.2, 0, none⟩)), (66, .agg #[.int .i64 a0_0, s_.1, .slice none 0 0])]) (fun s_ w' => (w'.cell? ⟨gb282, 0, none⟩ = some (.int .i64 a0_0) ∧ w'.cell? ⟨gb282, 1, none⟩ = some (.slice (some ad289) l0_1.length c0_1) ∧ w'.cell? ⟨gb282, 2, none⟩ = some (.slice A0_2 l0_2.length c0_2) ∧ w'.cell? ⟨gb290, 0, none⟩ = some (.int .i64 ((rd_T45 l0_1 x7_2).f0)) ∧ w'.cell? ⟨gb290, 1, none⟩ = some (.int .i64 ((rd_T45 l0_1 x7_2).f1))) ∧ (Kd.R k45 45 w' w.heap.size (fun k_ => k_ ≠ gb290) s_.1 t291) ∧ (w'.heap[gb282]? = some (.cells #[.int .i64 a0_0, .slice (some ad289) l0_1.length c0_1, .slice A0_2 l0_2.length c0_2] 28 (0, 0))) ∧ (w'.heap[gb283]? = some (.cells #[.int .i64 0, .slice none 0 0, .slice none 0 0] 28 (0, 0))) ∧ (w'.heap[gb290]? = some (.cells #[.int .i64 ((rd_T45 l0_1 x7_2).f0), .int .i64 ((rd_T45 l0_1 x7_2).f1)] 45 (0, 0))) ∧ (w'.heap[s_.2]? = some (.cells #[.int .i64 0, .slice none 0 0, .slice none 0 0] 28 (0, 0))) ∧ (w.heap.size ≤ s_.2) ∧ (w.heap.size ≤ s_.2) ∧ (gb282 ≠ s_.2) ∧ (s_.2 ≠ gb282) ∧ (gb283 ≠ s_.2) ∧ (s_.2 ≠ gb283) ∧ (gb290 ≠ s_.2) ∧ (s_.2 ≠ gb290) ∧ (Below w.heap.size w w')) ?_ ?_
          rotate_left
          ·intro hCont
           refine two_ (i := 5) (j := 7) (Ni := some 65) (Nj := some 11) #[tT,tT,tT,tT,tT,tT,fF,fF,fF] #[tT,tT,tT,tT,tT,fF,fF,tT,fF] rfl rfl rfl rfl (two_of HT_.out (by kernel_rfl)) (by decide) (by decide) (fun K hK => ?_) (fun K hK => ?_)
           ·skip
            refine gS Try.func36 (by kernel_rfl) rfl #[.slice (some ad289) l0_1.length c0_1, .agg #[.int .i64 ((rd_T45 l0_1 x7_2).f0), .int .i64 ((rd_T45 l0_1 x7_2).f1)]] (by rfl) rfl rfl ?_
            with_reducible refine (impl_lacking.calls _ _ l0_1 ((rd_T45 l0_1 x7_2).f0) ((rd_T45 l0_1 x7_2).f1) t291 _ ?side1 ?side2 A58.out).mono ?_
            (case side1 => exact cK HR0_1.out HB.out)
            (case side2 => exact HC0_1.out)
            rintro e w67 ⟨v292, rfl, ho0, hb⟩
            refine ⟨_, rfl, ?_⟩
            have HO293 := aM (xL (Kd.R_newB ho0 (g := gb290) (o := .cells #[.int .i64 ((rd_T45 l0_1 x7_2).f0), .int .i64 ((rd_T45 l0_1 x7_2).f1)] 45 (0, 0)) (yH BK290.out)) (zZ (zH HB.out)))
            replace BK282 := yK BK282.out hb
            replace BK283 := yK BK283.out hb
            replace BK290 := yK BK290.out hb
            replace HB := aM (zT (zH HB.out) hb)
            (try clear hb); (try clear ho0)
            obtain ⟨Ao68, co68, eo68⟩ := Kd.R_slice HO293.out
            (first | subst eo68 | obtain ⟨rfl, rfl⟩ := eI eo68)
            refine hK.out _ _ ⟨yc BK282.out 0, yc BK282.out 1, yc BK282.out 2, yc BK290.out 0, yc BK290.out 1⟩ (fun hHeld => ?_)
            clear hK K
            refine norm_ (a' := ?_) ?_ ?_
            rotate_left
            ·show Act.put _ (some 65) _ = _
             simp only [Act.put, qA, qB, qC, i64_w, i32_w]
             rfl
            refine pure_ (i := 6) (N := some 66) (v := ?_) (a' := ?_) #[tT,tT,tT,tT,tT,tT,tT,fF,fF] rfl rfl (any_of HT_.out (by kernel_rfl)) (fun _ _ _ h => h) (Or.inl ⟨by rfl, ?_⟩) ?_ ?_
            rotate_left
            ·intro w'
             go_simp
             with_reducible rfl
            rotate_left
            ·simp only [Act.put, qA, qB, qC, i64_w, i32_w]
             rfl
            refine one_ (i := 7) (N := some 11) #[tT,tT,tT,tT,tT,tT,tT,tT,fF] rfl rfl (one_of HT_.out (by kernel_rfl)) (by decide) (fun K hK => ?_)
            refine box_step ?hg (N := 11) ?hd (cs := #[.int .i64 0, .slice none 0 0, .slice none 0 0]) (t := 28) ?hr ?_; (case hd => rfl); (case hg => rfl); (case hr => first | (go_simp; done) | (go_simp; rfl))
            intro gb294 hg w69 hbox hb
            replace HO293 := xK HO293.out hb
            have BK294 := aM (hbox)
            have GW294 := aM ((by rw [hg]; exact (zZ (zH HB.out)) : w.heap.size ≤ gb294))
            have GE294 := aM ((by rw [hg]; exact (zZ (zH HB.out)) : w.heap.size ≤ gb294))
            replace HB := aM (zT (zH HB.out) hb)
            have NB282_294 := nL BK282.out hg
            have NB294_282 := nR BK282.out hg
            replace BK282 := yK BK282.out hb
            have NB283_294 := nL BK283.out hg
            have NB294_283 := nR BK283.out hg
            replace BK283 := yK BK283.out hb
            have NB290_294 := nL BK290.out hg
            have NB294_290 := nR BK290.out hg
            replace BK290 := yK BK290.out hb
            clear hb hbox hg
            refine hK.out _ _ ⟨yc BK282.out 0, yc BK282.out 1, yc BK282.out 2, yc BK290.out 0, yc BK290.out 1⟩ (fun hHeld => ?_)
            clear hK K
            refine norm_ (a' := ?_) ?_ ?_
            rotate_left
            ·show Act.put _ (some 11) _ = _
             simp only [Act.put, qA, qB, qC, i64_w, i32_w]
             rfl
            exact norm_ (by simp only [putAll, Act.put, qA, qB, qC]) (hCont (.slice Ao68 t291.length co68, gb294) _ ⟨hHeld, (xH (xM HO293.out (fun _ hk => hk.2))), (yH BK282.out), (yH BK283.out), (yH BK290.out), (yH BK294.out), GW294.out, GE294.out, NB282_294.out, NB294_282.out, NB283_294.out, NB294_283.out, NB290_294.out, NB294_290.out, (zH HB.out)⟩)
           ·skip
            refine box_step ?hg (N := 11) ?hd (cs := #[.int .i64 0, .slice none 0 0, .slice none 0 0]) (t := 28) ?hr ?_; (case hd => rfl); (case hg => rfl); (case hr => first | (go_simp; done) | (go_simp; rfl))
            intro gb294 hg w67 hbox hb
            have BK294 := aM (hbox)
            have GW294 := aM ((by rw [hg]; exact (zZ (zH HB.out)) : w.heap.size ≤ gb294))
            have GE294 := aM ((by rw [hg]; exact (zZ (zH HB.out)) : w.heap.size ≤ gb294))
            replace HB := aM (zT (zH HB.out) hb)
            have NB282_294 := nL BK282.out hg
            have NB294_282 := nR BK282.out hg
            replace BK282 := yK BK282.out hb
            have NB283_294 := nL BK283.out hg
            have NB294_283 := nR BK283.out hg
            replace BK283 := yK BK283.out hb
            have NB290_294 := nL BK290.out hg
            have NB294_290 := nR BK290.out hg
            replace BK290 := yK BK290.out hb
            clear hb hbox hg
            refine hK.out _ _ ⟨yc BK282.out 0, yc BK282.out 1, yc BK282.out 2, yc BK290.out 0, yc BK290.out 1⟩ (fun hHeld => ?_)
            clear hK K
            refine norm_ (a' := ?_) ?_ ?_
            rotate_left
            ·show Act.put _ (some 11) _ = _
             simp only [Act.put, qA, qB, qC, i64_w, i32_w]
             rfl
            refine one_ (i := 5) (N := some 65) #[tT,tT,tT,tT,tT,tT,fF,tT,fF] rfl rfl (one_of HT_.out (by kernel_rfl)) (by decide) (fun K hK => ?_)
            refine gS Try.func36 (by kernel_rfl) rfl #[.slice (some ad289) l0_1.length c0_1, .agg #[.int .i64 ((rd_T45 l0_1 x7_2).f0), .int .i64 ((rd_T45 l0_1 x7_2).f1)]] (by rfl) rfl rfl ?_
            with_reducible refine (impl_lacking.calls _ _ l0_1 ((rd_T45 l0_1 x7_2).f0) ((rd_T45 l0_1 x7_2).f1) t291 _ ?side1 ?side2 A58.out).mono ?_
            (case side1 => exact cK HR0_1.out HB.out)
            (case side2 => exact HC0_1.out)
            rintro e w68 ⟨v292, rfl, ho0, hb⟩
            refine ⟨_, rfl, ?_⟩
            have HO293 := aM (xL (Kd.R_newB ho0 (g := gb290) (o := .cells #[.int .i64 ((rd_T45 l0_1 x7_2).f0), .int .i64 ((rd_T45 l0_1 x7_2).f1)] 45 (0, 0)) (yH BK290.out)) (zZ (zH HB.out)))
            replace BK282 := yK BK282.out hb
            replace BK283 := yK BK283.out hb
            replace BK290 := yK BK290.out hb
            replace BK294 := yK BK294.out hb
            replace HB := aM (zT (zH HB.out) hb)
            (try clear hb); (try clear ho0)
            obtain ⟨Ao69, co69, eo69⟩ := Kd.R_slice HO293.out
            (first | subst eo69 | obtain ⟨rfl, rfl⟩ := eI eo69)
            refine hK.out _ _ ⟨yc BK282.out 0, yc BK282.out 1, yc BK282.out 2, yc BK290.out 0, yc BK290.out 1⟩ (fun hHeld => ?_)
            clear hK K
            refine norm_ (a' := ?_) ?_ ?_
            rotate_left
            ·show Act.put _ (some 65) _ = _
             simp only [Act.put, qA, qB, qC, i64_w, i32_w]
             rfl
            refine pure_ (i := 6) (N := some 66) (v := ?_) (a' := ?_) #[tT,tT,tT,tT,tT,tT,tT,tT,fF] rfl rfl (any_of HT_.out (by kernel_rfl)) (fun _ _ _ h => h) (Or.inl ⟨by rfl, ?_⟩) ?_ ?_
            rotate_left
            ·intro w'
             go_simp
             with_reducible rfl
            rotate_left
            ·simp only [Act.put, qA, qB, qC, i64_w, i32_w]
             rfl
            exact norm_ (by simp only [putAll, Act.put, qA, qB, qC]) (hCont (.slice Ao69 t291.length co69, gb294) _ ⟨hHeld, (xH (xM HO293.out (fun _ hk => hk.2))), (yH BK282.out), (yH BK283.out), (yH BK290.out), (yH BK294.out), GW294.out, GE294.out, NB282_294.out, NB294_282.out, NB283_294.out, NB294_283.out, NB290_294.out, NB294_290.out, (zH HB.out)⟩)
          rintro ⟨v292, gb294⟩ w70 ⟨hS_, h0_, h1_, h2_, h3_, h4_, h5_, h6_, h7_, h8_, h9_, h10_, h11_, h12_, h13_⟩
          (try dsimp only at h0_ h1_ h2_ h3_ h4_ h5_ h6_ h7_ h8_ h9_ h10_ h11_ h12_ h13_)
          have n0_ := aM h0_
          have n1_ := aM h1_
          have n2_ := aM h2_
          have n3_ := aM h3_
          have n4_ := aM h4_
          have n5_ := aM h5_
          have n6_ := aM h6_
          have n7_ := aM h7_
          have n8_ := aM h8_
          have n9_ := aM h9_
          have n10_ := aM h10_
          have n11_ := aM h11_
          have n12_ := aM h12_
          have n13_ := aM h13_
          clear BK282 BK283 BK290 HB h0_ h1_ h2_ h3_ h4_ h5_ h6_ h7_ h8_ h9_ h10_ h11_ h12_ h13_
          have HO293 := n0_
          have BK282 := n1_
          have BK283 := n2_
          have BK290 := n3_
          have BK294 := n4_
          have GW294 := n5_
          have GE294 := n6_
          have NB282_294 := n7_
          have NB294_282 := n8_
          have NB283_294 := n9_
          have NB294_283 := n10_
          have NB290_294 := n11_
          have NB294_290 := n12_
          have HB := n13_
          clear n0_ n1_ n2_ n3_ n4_ n5_ n6_ n7_ n8_ n9_ n10_ n11_ n12_ n13_
          have hHeld : w70.cell? ⟨gb282, 0, none⟩ = some (.int .i64 a0_0) ∧ w70.cell? ⟨gb282, 1, none⟩ = some (.slice (some ad289) l0_1.length c0_1) ∧ w70.cell? ⟨gb282, 2, none⟩ = some (.slice A0_2 l0_2.length c0_2) ∧ w70.cell? ⟨gb290, 0, none⟩ = some (.int .i64 ((rd_T45 l0_1 x7_2).f0)) ∧ w70.cell? ⟨gb290, 1, none⟩ = some (.int .i64 ((rd_T45 l0_1 x7_2).f1)) := hS_
          obtain ⟨Ao71, co71, eo71⟩ := Kd.R_slice HO293.out
          (first | subst eo71 | obtain ⟨rfl, rfl⟩ := eI eo71)
          refine norm_ (a' := ?_) ?_ ?_
          rotate_left
          ·simp only [putAll, Act.put, qA, qB, qC]
           rfl
          refine one_ (i := 8) (N := none) #[tT,tT,tT,tT,tT,tT,tT,tT,tT] rfl rfl (one_of HT_.out (by kernel_rfl)) (by decide) (fun K hK => ?_)
          have hs72 : w70.cell? ⟨gb294, 0, none⟩ = some (.int .i64 0) := yc BK294.out 0
          have hfs72 := yZ BK294.out 0
          have hns72_0 := NB282_294.out
          have hns72_1 := NB283_294.out
          have hns72_2 := NB290_294.out
          have hms72_0 := NB294_282.out
          have hms72_1 := NB294_283.out
          have hms72_2 := NB294_290.out
          have hs73 : w70.cell? ⟨gb294, 1, none⟩ = some (.slice none 0 0) := yc BK294.out 1
          have hfs73 := yZ BK294.out 1
          have hns73_0 := NB282_294.out
          have hns73_1 := NB283_294.out
          have hns73_2 := NB290_294.out
          have hms73_0 := NB294_282.out
          have hms73_1 := NB294_283.out
          have hms73_2 := NB294_290.out
          have hs74 : w70.cell? ⟨gb294, 2, none⟩ = some (.slice none 0 0) := yc BK294.out 2
          have hfs74 := yZ BK294.out 2
          have hns74_0 := NB282_294.out
          have hns74_1 := NB283_294.out
          have hns74_2 := NB290_294.out
          have hms74_0 := NB294_282.out
          have hms74_1 := NB294_283.out
          have hms74_2 := NB294_290.out
          refine skip_ (w1 := ?_) (by rfl) rfl ?_ ?_
          rotate_left
          ·go_simp
           rfl
          refine hK.out _ _ ⟨((cell_far (p := ⟨gb294, _, none⟩) NB282_294.out _).trans (((cell_far (p := ⟨gb294, _, none⟩) NB282_294.out _).trans (((cell_far (p := ⟨gb294, _, none⟩) NB282_294.out _).trans (hHeld.1)))))), ((cell_far (p := ⟨gb294, _, none⟩) NB282_294.out _).trans (((cell_far (p := ⟨gb294, _, none⟩) NB282_294.out _).trans (((cell_far (p := ⟨gb294, _, none⟩) NB282_294.out _).trans (hHeld.2.1)))))), ((cell_far (p := ⟨gb294, _, none⟩) NB282_294.out _).trans (((cell_far (p := ⟨gb294, _, none⟩) NB282_294.out _).trans (((cell_far (p := ⟨gb294, _, none⟩) NB282_294.out _).trans (hHeld.2.2.1)))))), ((cell_far (p := ⟨gb294, _, none⟩) NB290_294.out _).trans (((cell_far (p := ⟨gb294, _, none⟩) NB290_294.out _).trans (((cell_far (p := ⟨gb294, _, none⟩) NB290_294.out _).trans (hHeld.2.2.2.1)))))), ((cell_far (p := ⟨gb294, _, none⟩) NB290_294.out _).trans (((cell_far (p := ⟨gb294, _, none⟩) NB290_294.out _).trans (((cell_far (p := ⟨gb294, _, none⟩) NB290_294.out _).trans (hHeld.2.2.2.2))))))⟩ (fun hHeld => ?_)
          clear hK K
          refine done_ (done_of HT_.out (by kernel_rfl)) ?_
          try go_wp2
          go_loopg [] k2 (fun kq w' => ∃ (x291001_3 : Int) (x295001_3 : List (S45)) (u295001 : Value), Aside0 (impl_TakeBlock.l1 kq a1 a0_0 l0_1 l0_2 ((rd_T45 l0_1 x7_2).f0) x291001_3 a0_0 x295001_3 = some (r1, r2, r3, r4, r5)) ∧ Aside0 (kq ≤ k2) ∧ Aside0 (Kd.R k45 45 w' w.heap.size (fun k_ => k_ ≠ gb290) u295001 x295001_3) ∧ Aside0 (w'.heap[gb282]? = some (.cells #[.int .i64 a0_0, (.slice (some ad289) l0_1.length c0_1), (.slice A0_2 l0_2.length c0_2)] 28 (0, 0))) ∧ Aside0 (w'.heap[gb283]? = some (.cells #[.int .i64 0, (.slice none 0 0), (.slice none 0 0)] 28 (0, 0))) ∧ Aside0 (w'.heap[gb290]? = some (.cells #[.int .i64 ((rd_T45 l0_1 x7_2).f0), .int .i64 x291001_3] 45 (0, 0))) ∧ Aside0 (w'.heap[gb294]? = some (.cells #[.int .i64 a0_0, u295001, (.slice none 0 0)] 28 (0, 0))) ∧ Aside0 (Below w.heap.size w w'))
          case atStart => exact ⟨((rd_T45 l0_1 x7_2).f1), (t291), (.slice Ao71 t291.length co71), H', ⟨Nat.le_refl _⟩, ⟨xH (xM (xF (p := ⟨gb294, 2, none⟩) (xF (p := ⟨gb294, 1, none⟩) (xF (p := ⟨gb294, 0, none⟩) (xT HO293.out BK294.out (by decide)) (fun _ hk => hk.2) (.int .i64 a0_0)) (fun _ hk => hk.2) (.slice Ao71 t291.length co71)) (fun _ hk => hk.2) (.slice none 0 0)) (fun _ hk => hk.1))⟩, ⟨by (with_reducible repeat (first | refine yN ?_ _ | refine yD ?_ | refine yA ?_ _)); refine yF ?_ NB282_294.out _; (with_reducible repeat (first | refine yN ?_ _ | refine yD ?_ | refine yA ?_ _)); refine yF ?_ NB282_294.out _; (with_reducible repeat (first | refine yN ?_ _ | refine yD ?_ | refine yA ?_ _)); refine yF ?_ NB282_294.out _; (with_reducible repeat (first | refine yN ?_ _ | refine yD ?_ | refine yA ?_ _)); exact BK282.out⟩, ⟨by (with_reducible repeat (first | refine yN ?_ _ | refine yD ?_ | refine yA ?_ _)); refine yF ?_ NB283_294.out _; (with_reducible repeat (first | refine yN ?_ _ | refine yD ?_ | refine yA ?_ _)); refine yF ?_ NB283_294.out _; (with_reducible repeat (first | refine yN ?_ _ | refine yD ?_ | refine yA ?_ _)); refine yF ?_ NB283_294.out _; (with_reducible repeat (first | refine yN ?_ _ | refine yD ?_ | refine yA ?_ _)); exact BK283.out⟩, ⟨by (with_reducible repeat (first | refine yN ?_ _ | refine yD ?_ | refine yA ?_ _)); refine yF ?_ NB290_294.out _; (with_reducible repeat (first | refine yN ?_ _ | refine yD ?_ | refine yA ?_ _)); refine yF ?_ NB290_294.out _; (with_reducible repeat (first | refine yN ?_ _ | refine yD ?_ | refine yA ?_ _)); refine yF ?_ NB290_294.out _; (with_reducible repeat (first | refine yN ?_ _ | refine yD ?_ | refine yA ?_ _)); exact BK290.out⟩, ⟨by (with_reducible repeat (first | refine yN ?_ _ | refine yD ?_ | refine yA ?_ _)); refine yP (cs := #[.int .i64 a0_0, .slice Ao71 t291.length co71, .slice none 0 0]) ?_ 2 _ rfl; (with_reducible repeat (first | refine yN ?_ _ | refine yD ?_ | refine yA ?_ _)); refine yP (cs := #[.int .i64 a0_0, .slice none 0 0, .slice none 0 0]) ?_ 1 _ rfl; (with_reducible repeat (first | refine yN ?_ _ | refine yD ?_ | refine yA ?_ _)); refine yP (cs := #[.int .i64 0, .slice none 0 0, .slice none 0 0]) ?_ 0 _ rfl; (with_reducible repeat (first | refine yN ?_ _ | refine yD ?_ | refine yA ?_ _)); exact BK294.out⟩, ⟨zH HB.out⟩⟩
          case round =>
           clear H'
           (try clear c2); (try clear p2); (try clear q2); (try clear hx2); (try clear c3); (try clear c4); (try clear c5); (try clear c6); (try clear p6); (try clear c21); (try clear c21b0); (try clear c22); (try clear c23); (try clear c24); (try clear c24b0); (try clear p28); (try clear q28); (try clear hx28); (try clear c32); (try clear c33); (try clear c36); (try clear c48); (try clear c49); (try clear c53); (try clear c53b0); (try clear c54); (try clear c56); (try clear c56b0); (try clear c57); (try clear c57b0); (try clear c59); (try clear c62); (try clear c63); (try clear p64); (try clear hcz50_0); (try clear hcz50_1); (try clear hcz55_0); (try clear hcz55_1); (try clear hcz55_2); (try clear hcz60_0); (try clear hcz60_1); (try clear hcz60_2); (try clear hcz64_0); (try clear hcz64_1); (try clear hfz50_0); (try clear hfz50_1); (try clear hfz55_0); (try clear hfz55_1); (try clear hfz55_2); (try clear hfz60_0); (try clear hfz60_1); (try clear hfz60_2); (try clear hfz64_0); (try clear hfz64_1); (try clear hx286_0); (try clear hx286_1); (try clear hx289_0); (try clear hx289_1); (try clear p286); (try clear p289); (try clear q286); (try clear q289)
           obtain ⟨x291001_3, x295001_3, u295001, HA, HK3, p0', BK282, BK283, BK290, BK294, HB⟩ := hrel
           cases gk with
           | zero => exact absurd HA.out (fun h_ => by change none = some _ at h_; cases h_)
           | succ k3 =>
            have H := HA.out
            clear HA
            simp only [impl_TakeBlock.l1] at H
            by_cases c75 : x291001_3 > a1
            ·rw [if_pos c75] at H
             have c75b0 : decide (a1 < x291001_3) = true := decide_eq_true c75
             clear c75
             replace H := Option.bind_eq_some_iff.mp H
             obtain ⟨⟨t295, t296⟩, A760, H⟩ := H
             replace H : ((impl_with.f x295001_3 t295 t296).bind fun t297 => (impl_TakeBlock.l1 k3 a1 a0_0 l0_1 l0_2 ((rd_T45 l0_1 x7_2).f0) (wrap64 (x291001_3 - 1)) a0_0 t297)) = some (r1, r2, r3, r4, r5) := H
             have A76 := aM A760
             clear A760
             replace H := Option.bind_eq_some_iff.mp H
             obtain ⟨t297, A770, H⟩ := H
             replace H : (impl_TakeBlock.l1 k3 a1 a0_0 l0_1 l0_2 ((rd_T45 l0_1 x7_2).f0) (wrap64 (x291001_3 - 1)) a0_0 t297) = some (r1, r2, r3, r4, r5) := H
             have A77 := aM A770
             clear A770
             have H' := aM H
             clear H
             have hnb78 := NB290_282.out
             have hnc78 := NB282_290.out
             have hnb79 := NB290_283.out
             have hnc79 := NB283_290.out
             have hnb80 := NB290_294.out
             have hnc80 := NB294_290.out
             have hcz81_0 : wr.cell? ⟨gb290, 0, none⟩ = some (.int .i64 ((rd_T45 l0_1 x7_2).f0)) := yc BK290.out 0
             have hcz81_1 : wr.cell? ⟨gb290, 1, none⟩ = some (.int .i64 x291001_3) := yc BK290.out 1
             have hfz81_0 := yZ BK290.out 0
             have hfz81_1 := yZ BK290.out 1
             try go_wp2
             have n0_ : Aside0 (Kd.R k45 45 (wr.setCell ⟨gb290, 1, none⟩ (.int .i64 (wrap64 (x291001_3 - 1)))) w.heap.size (fun k_ => k_ ≠ gb290) u295001 x295001_3) := ⟨xH (xM (xF (p := ⟨gb290, 1, none⟩) (xM p0'.out (fun k_ hk => (⟨hk, hk⟩ : _ ∧ k_ ≠ gb290))) (fun _ hk => hk.2) (.int .i64 (wrap64 (x291001_3 - 1)))) (fun _ hk => hk.1))⟩
             have n1_ : Aside0 ((wr.setCell ⟨gb290, 1, none⟩ (.int .i64 (wrap64 (x291001_3 - 1)))).heap[gb282]? = some (.cells #[.int .i64 a0_0, .slice (some ad289) l0_1.length c0_1, .slice A0_2 l0_2.length c0_2] 28 (0, 0))) := ⟨by (with_reducible repeat (first | refine yN ?_ _ | refine yD ?_ | refine yA ?_ _)); refine yF ?_ NB282_290.out _; (with_reducible repeat (first | refine yN ?_ _ | refine yD ?_ | refine yA ?_ _)); exact BK282.out⟩
             have n2_ : Aside0 ((wr.setCell ⟨gb290, 1, none⟩ (.int .i64 (wrap64 (x291001_3 - 1)))).heap[gb283]? = some (.cells #[.int .i64 0, .slice none 0 0, .slice none 0 0] 28 (0, 0))) := ⟨by (with_reducible repeat (first | refine yN ?_ _ | refine yD ?_ | refine yA ?_ _)); refine yF ?_ NB283_290.out _; (with_reducible repeat (first | refine yN ?_ _ | refine yD ?_ | refine yA ?_ _)); exact BK283.out⟩
             have n3_ : Aside0 ((wr.setCell ⟨gb290, 1, none⟩ (.int .i64 (wrap64 (x291001_3 - 1)))).heap[gb290]? = some (.cells #[.int .i64 ((rd_T45 l0_1 x7_2).f0), .int .i64 (wrap64 (x291001_3 - 1))] 45 (0, 0))) := ⟨by (with_reducible repeat (first | refine yN ?_ _ | refine yD ?_ | refine yA ?_ _)); refine yP (cs := #[.int .i64 ((rd_T45 l0_1 x7_2).f0), .int .i64 x291001_3]) ?_ 1 _ rfl; (with_reducible repeat (first | refine yN ?_ _ | refine yD ?_ | refine yA ?_ _)); exact BK290.out⟩
             have n4_ : Aside0 ((wr.setCell ⟨gb290, 1, none⟩ (.int .i64 (wrap64 (x291001_3 - 1)))).heap[gb294]? = some (.cells #[.int .i64 a0_0, u295001, .slice none 0 0] 28 (0, 0))) := ⟨by (with_reducible repeat (first | refine yN ?_ _ | refine yD ?_ | refine yA ?_ _)); refine yF ?_ NB294_290.out _; (with_reducible repeat (first | refine yN ?_ _ | refine yD ?_ | refine yA ?_ _)); exact BK294.out⟩
             have n5_ : Aside0 (Below w.heap.size w (wr.setCell ⟨gb290, 1, none⟩ (.int .i64 (wrap64 (x291001_3 - 1))))) := ⟨zH HB.out⟩
             (try clear p0'); (try clear BK282); (try clear BK283); (try clear BK290); (try clear BK294); (try clear HB)
             generalize (wr.setCell ⟨gb290, 1, none⟩ (.int .i64 (wrap64 (x291001_3 - 1)))) = w82 at n0_ n1_ n2_ n3_ n4_ n5_ ⊢
             have p0' := n0_
             have BK282 := n1_
             have BK283 := n2_
             have BK290 := n3_
             have BK294 := n4_
             have HB := n5_
             clear n0_ n1_ n2_ n3_ n4_ n5_
             replace p0' := aM (xD p0'.out)
             replace BK282 := aM (yD BK282.out)
             replace BK283 := aM (yD BK283.out)
             replace BK290 := aM (yD BK290.out)
             replace BK294 := aM (yD BK294.out)
             replace HB := aM (zD HB.out)
             refine start_ (n := 7) (S := fun w' => w'.cell? ⟨gb294, 0, none⟩ = some (.int .i64 a0_0) ∧ w'.cell? ⟨gb294, 1, none⟩ = some (u295001) ∧ w'.cell? ⟨gb294, 2, none⟩ = some (.slice none 0 0) ∧ w'.cell? ⟨gb290, 0, none⟩ = some (.int .i64 ((rd_T45 l0_1 x7_2).f0)) ∧ w'.cell? ⟨gb290, 1, none⟩ = some (.int .i64 (wrap64 (x291001_3 - 1)))) (ds := [6]) #[fF,fF,fF,fF,fF,fF,fF] (by kernel_rfl) rfl rfl ⟨yc BK294.out 0, yc BK294.out 1, yc BK294.out 2, yc BK290.out 0, yc BK290.out 1⟩ (fun hHeld => ?_)
             generalize w82.drew = w83 at p0' BK282 BK283 BK290 BK294 HB hHeld ⊢
             refine pure_ (i := 0) (N := some 75) (v := ?_) (a' := ?_) #[tT,fF,fF,fF,fF,fF,fF] rfl rfl (by kernel_rfl) (fun _ _ _ h => h) (Or.inl ⟨by rfl, ?_⟩) ?_ ?_
             rotate_left
             ·intro w'
              go_simp
              with_reducible rfl
             rotate_left
             ·simp only [Act.put, qA, qB, qC, i64_w, i32_w]
              rfl
             refine take_ (i := 1) (N := some 76) (v := ?_) (a' := ?_) #[tT,tT,fF,fF,fF,fF,fF] rfl rfl (by kernel_rfl) (fun _ _ _ h => h) (Or.inl ⟨by rfl, ?_⟩) hHeld ?_ ?_
             rotate_left
             ·rintro w' ⟨s0, s1, s2, s3, s4⟩
              go_simp
              with_reducible rfl
             rotate_left
             ·simp only [Act.put, qA, qB, qC, i64_w, i32_w]
              rfl
             refine take_ (i := 2) (N := some 77) (v := ?_) (a' := ?_) #[tT,tT,tT,fF,fF,fF,fF] rfl rfl (by kernel_rfl) (fun _ _ _ h => h) (Or.inl ⟨by rfl, ?_⟩) hHeld ?_ ?_
             rotate_left
             ·rintro w' ⟨s0, s1, s2, s3, s4⟩
              go_simp
              with_reducible rfl
             rotate_left
             ·simp only [Act.put, qA, qB, qC, i64_w, i32_w]
              rfl
             refine one_ (i := 3) (N := some 78) #[tT,tT,tT,tT,fF,fF,fF] rfl rfl (by kernel_rfl) (by decide) (fun K hK => ?_)
             refine gS Try.func38 (by kernel_rfl) rfl #[.agg #[.int .i64 ((rd_T45 l0_1 x7_2).f0), .int .i64 (wrap64 (x291001_3 - 1))]] (by rfl) rfl rfl ?_
             with_reducible refine (impl_Block_buddy.calls ((rd_T45 l0_1 x7_2).f0) (wrap64 (x291001_3 - 1)) t295 t296 _ A76.out).mono ?_
             rintro e w84 ⟨rfl, hb⟩
             refine ⟨_, rfl, ?_⟩
             replace p0' := xK p0'.out hb
             replace BK282 := yK BK282.out hb
             replace BK283 := yK BK283.out hb
             replace BK290 := yK BK290.out hb
             replace BK294 := yK BK294.out hb
             replace HB := aM (zT (zH HB.out) hb)
             (try clear hb)
             obtain ⟨Ao85, co85, eo85⟩ := Kd.R_slice p0'.out
             (first | subst eo85 | obtain ⟨rfl, rfl⟩ := eI eo85)
             refine hK.out _ _ ⟨yc BK294.out 0, yc BK294.out 1, yc BK294.out 2, yc BK290.out 0, yc BK290.out 1⟩ (fun hHeld => ?_)
             clear hK K
             refine norm_ (a' := ?_) ?_ ?_
             rotate_left
             ·show Act.put _ (some 78) _ = _
              simp only [Act.put, qA, qB, qC, i64_w, i32_w]
              rfl
             refine one_ (i := 4) (N := some 79) #[tT,tT,tT,tT,tT,fF,fF] rfl rfl (by kernel_rfl) (by decide) (fun K hK => ?_)
             refine gS Try.func39 (by kernel_rfl) rfl #[.slice Ao85 x295001_3.length co85, .agg #[.int .i64 t295, .int .i64 t296]] (by rfl) rfl rfl ?_
             with_reducible refine (impl_with.calls _ _ x295001_3 t295 t296 t297 _ ?side1 ?side2 A77.out).mono ?_
             (case side1 => repeat (first | exact (Kd.R_reads' p0'.out).2.2 | (with_reducible refine cA ?_ _) | (with_reducible refine cN ?_ _) | (with_reducible refine cD ?_)))
             (case side2 => exact (Kd.R_reads' p0'.out).2.1)
             rintro e w86 ⟨v298, rfl, ho0, hb⟩
             refine ⟨_, rfl, ?_⟩
             have HO299 := aM (xL (Kd.R_newB (Kd.R_new' ho0 (Kd.R_lt (xH p0'.out))) (g := gb290) (o := .cells #[.int .i64 ((rd_T45 l0_1 x7_2).f0), .int .i64 (wrap64 (x291001_3 - 1))] 45 (0, 0)) (yH BK290.out)) (zZ (zH HB.out)))
             replace p0' := aM (Kd.R_elder' (xH p0'.out) (Kd.R_base ho0) hb)
             replace BK282 := yK BK282.out hb
             replace BK283 := yK BK283.out hb
             replace BK290 := yK BK290.out hb
             replace BK294 := yK BK294.out hb
             replace HB := aM (zT (zH HB.out) hb)
             (try clear hb); (try clear ho0)
             obtain ⟨Ao87, co87, eo87⟩ := Kd.R_slice HO299.out
             (first | subst eo87 | obtain ⟨rfl, rfl⟩ := eI eo87)
             refine hK.out _ _ ⟨yc BK294.out 0, yc BK294.out 1, yc BK294.out 2, yc BK290.out 0, yc BK290.out 1⟩ (fun hHeld => ?_)
             clear hK K
             refine norm_ (a' := ?_) ?_ ?_
             rotate_left
             ·show Act.put _ (some 79) _ = _
              simp only [Act.put, qA, qB, qC, i64_w, i32_w]
              rfl
             refine pure_ (i := 5) (N := some 80) (v := ?_) (a' := ?_) #[tT,tT,tT,tT,tT,tT,fF] rfl rfl (by kernel_rfl) (fun _ _ _ h => h) (Or.inl ⟨by rfl, ?_⟩) ?_ ?_
             rotate_left
             ·intro w'
              go_simp
              with_reducible rfl
             rotate_left
             ·simp only [Act.put, qA, qB, qC, i64_w, i32_w]
              rfl
             refine last_ (i := 6) (N := none) #[tT,tT,tT,tT,tT,tT,tT] rfl rfl (by kernel_rfl) (by decide) (fun K hK => ?_)
             have hs88 : w86.cell? ⟨gb294, 1, none⟩ = some (.slice Ao85 x295001_3.length co85) := yc BK294.out 1
             have hfs88 := yZ BK294.out 1
             have hns88_0 := NB282_294.out
             have hns88_1 := NB283_294.out
             have hns88_2 := NB290_294.out
             have hms88_0 := NB294_282.out
             have hms88_1 := NB294_283.out
             have hms88_2 := NB294_290.out
             refine skip_ (w1 := ?_) (by rfl) rfl ?_ ?_
             rotate_left
             ·go_simp
              rfl
             refine hK.out _ _ ?_
             clear hK K
             refine done_ (by kernel_rfl) ?_
             try go_wp2
             go_roundg k3
             case measure => have := HJ2.out; have := HK2.out; have := HK3.out; omega
             case rel => exact ⟨(wrap64 (x291001_3 - 1)), (t297), (.slice Ao87 t297.length co87), H', ⟨by have := HJ2.out; have := HK2.out; have := HK3.out; omega⟩, ⟨xH (xM (xF (p := ⟨gb294, 1, none⟩) (xT HO299.out BK294.out (by decide)) (fun _ hk => hk.2) (.slice Ao87 t297.length co87)) (fun _ hk => hk.1.2))⟩, ⟨by (with_reducible repeat (first | refine yN ?_ _ | refine yD ?_ | refine yA ?_ _)); refine yF ?_ NB282_294.out _; (with_reducible repeat (first | refine yN ?_ _ | refine yD ?_ | refine yA ?_ _)); exact BK282.out⟩, ⟨by (with_reducible repeat (first | refine yN ?_ _ | refine yD ?_ | refine yA ?_ _)); refine yF ?_ NB283_294.out _; (with_reducible repeat (first | refine yN ?_ _ | refine yD ?_ | refine yA ?_ _)); exact BK283.out⟩, ⟨by (with_reducible repeat (first | refine yN ?_ _ | refine yD ?_ | refine yA ?_ _)); refine yF ?_ NB290_294.out _; (with_reducible repeat (first | refine yN ?_ _ | refine yD ?_ | refine yA ?_ _)); exact BK290.out⟩, ⟨by (with_reducible repeat (first | refine yN ?_ _ | refine yD ?_ | refine yA ?_ _)); refine yP (cs := #[.int .i64 a0_0, .slice Ao85 x295001_3.length co85, .slice none 0 0]) ?_ 1 _ rfl; (with_reducible repeat (first | refine yN ?_ _ | refine yD ?_ | refine yA ?_ _)); exact BK294.out⟩, ⟨zH HB.out⟩⟩
            ·rw [if_neg c75] at H
             have c75b0 : decide (a1 < x291001_3) = false := decide_eq_false c75
             clear c75
             replace H := Option.bind_eq_some_iff.mp H
             obtain ⟨t300, A890, H⟩ := H
             replace H : (some (a0_0, x295001_3, t300, ((rd_T45 l0_1 x7_2).f0), true)) = some (r1, r2, r3, r4, r5) := H
             have A89 := aM A890
             clear A890
             simp only [Option.some.injEq, Prod.mk.injEq] at H
             obtain ⟨rfl, rfl, rfl, rfl, rfl⟩ := H
             have hnb90 := NB290_282.out
             have hnc90 := NB282_290.out
             have hnb91 := NB290_283.out
             have hnc91 := NB283_290.out
             have hnb92 := NB290_294.out
             have hnc92 := NB294_290.out
             have hcz93_0 : wr.cell? ⟨gb290, 0, none⟩ = some (.int .i64 ((rd_T45 l0_1 x7_2).f0)) := yc BK290.out 0
             have hcz93_1 : wr.cell? ⟨gb290, 1, none⟩ = some (.int .i64 x291001_3) := yc BK290.out 1
             have hfz93_0 := yZ BK290.out 0
             have hfz93_1 := yZ BK290.out 1
             have hnb94 := NB282_283.out
             have hnc94 := NB283_282.out
             have hnb95 := NB282_294.out
             have hnc95 := NB294_282.out
             have hcz96_0 : wr.cell? ⟨gb282, 0, none⟩ = some (.int .i64 a0_0) := yc BK282.out 0
             have hcz96_1 : wr.cell? ⟨gb282, 1, none⟩ = some (.slice (some ad289) l0_1.length c0_1) := yc BK282.out 1
             have hcz96_2 : wr.cell? ⟨gb282, 2, none⟩ = some (.slice A0_2 l0_2.length c0_2) := yc BK282.out 2
             have hfz96_0 := yZ BK282.out 0
             have hfz96_1 := yZ BK282.out 1
             have hfz96_2 := yZ BK282.out 2
             try go_wp2_with (first | ((with_reducible refine gate_callee (f := 39) rfl ?_); refine goesL_ (some 84) rfl rfl Try.func39 (by kernel_rfl) rfl #[.slice A0_2 l0_2.length c0_2, .agg #[.int .i64 ((rd_T45 l0_1 x7_2).f0), .int .i64 x291001_3]] rfl (by (try simp only [List.map_toArray, List.map_cons, List.map_nil]); first | done | rfl | (simp only [List.length_drop, List.length_take]; rfl)) ?_; (with_reducible refine (impl_with.calls _ _ l0_2 ((rd_T45 l0_1 x7_2).f0) x291001_3 t300 _ ?side1 ?side2 A89.out).mono ?_); (case side1 => exact cK HR0_2.out HB.out); (case side2 => exact HC0_2.out); rintro e w97 ⟨v301, rfl, ho0, hb⟩; refine ⟨_, rfl, ?_⟩; have HO302 := aM (xL (Kd.R_newB (Kd.R_new' ho0 (Kd.R_lt (xH p0'.out))) (g := gb290) (o := .cells #[.int .i64 ((rd_T45 l0_1 x7_2).f0), .int .i64 x291001_3] 45 (0, 0)) (yH BK290.out)) (zZ (zH HB.out))); replace p0' := aM (Kd.R_elder' (xH p0'.out) (Kd.R_base ho0) hb); replace BK282 := yK BK282.out hb; replace BK283 := yK BK283.out hb; replace BK290 := yK BK290.out hb; replace BK294 := yK BK294.out hb; replace HB := aM (zT (zH HB.out) hb); (try clear hb); (try clear ho0); obtain ⟨Ao98, co98, eo98⟩ := Kd.R_slice HO302.out; subst eo98; have hnb99 := NB294_283.out; have hnc99 := NB283_294.out; have hcz100_0 : w97.cell? ⟨gb294, 0, none⟩ = some (.int .i64 a0_0) := yc BK294.out 0; have hcz100_1 : w97.cell? ⟨gb294, 1, none⟩ = some (u295001) := yc BK294.out 1; have hcz100_2 : w97.cell? ⟨gb294, 2, none⟩ = some (.slice none 0 0) := yc BK294.out 2; have hfz100_0 := yZ BK294.out 0; have hfz100_1 := yZ BK294.out 1; have hfz100_2 := yZ BK294.out 2))
             have n0_ : Aside0 (Kd.R k45 45 (w97.setCell ⟨gb294, 2, none⟩ (.slice Ao98 t300.length co98)) w.heap.size (fun k_ => some k_ ≠ oB Ao98 t300.length co98 ∧ k_ ≠ gb290) u295001 x295001_3) := ⟨xH (xM (xF (p := ⟨gb294, 2, none⟩) (xT p0'.out BK294.out (by decide)) (fun _ hk => hk.2) (.slice Ao98 t300.length co98)) (fun _ hk => ⟨hk.1.2, hk.1.1⟩))⟩
             have n1_ : Aside0 (Kd.R k45 45 (w97.setCell ⟨gb294, 2, none⟩ (.slice Ao98 t300.length co98)) w.heap.size (fun k_ => some k_ ≠ (u295001 : Value).ownBlock ∧ k_ ≠ gb290) (.slice Ao98 t300.length co98) t300) := ⟨xH (xM (xF (p := ⟨gb294, 2, none⟩) (xT HO302.out BK294.out (by decide)) (fun _ hk => hk.2) (.slice Ao98 t300.length co98)) (fun _ hk => ⟨hk.1.1.2, hk.1.2⟩))⟩
             have n2_ : Aside0 ((w97.setCell ⟨gb294, 2, none⟩ (.slice Ao98 t300.length co98)).heap[gb282]? = some (.cells #[.int .i64 a0_0, .slice (some ad289) l0_1.length c0_1, .slice A0_2 l0_2.length c0_2] 28 (0, 0))) := ⟨by (with_reducible repeat (first | refine yN ?_ _ | refine yD ?_ | refine yA ?_ _)); refine yF ?_ NB282_294.out _; (with_reducible repeat (first | refine yN ?_ _ | refine yD ?_ | refine yA ?_ _)); exact BK282.out⟩
             have n3_ : Aside0 ((w97.setCell ⟨gb294, 2, none⟩ (.slice Ao98 t300.length co98)).heap[gb283]? = some (.cells #[.int .i64 0, .slice none 0 0, .slice none 0 0] 28 (0, 0))) := ⟨by (with_reducible repeat (first | refine yN ?_ _ | refine yD ?_ | refine yA ?_ _)); refine yF ?_ NB283_294.out _; (with_reducible repeat (first | refine yN ?_ _ | refine yD ?_ | refine yA ?_ _)); exact BK283.out⟩
             have n4_ : Aside0 ((w97.setCell ⟨gb294, 2, none⟩ (.slice Ao98 t300.length co98)).heap[gb290]? = some (.cells #[.int .i64 ((rd_T45 l0_1 x7_2).f0), .int .i64 x291001_3] 45 (0, 0))) := ⟨by (with_reducible repeat (first | refine yN ?_ _ | refine yD ?_ | refine yA ?_ _)); refine yF ?_ NB290_294.out _; (with_reducible repeat (first | refine yN ?_ _ | refine yD ?_ | refine yA ?_ _)); exact BK290.out⟩
             have n5_ : Aside0 ((w97.setCell ⟨gb294, 2, none⟩ (.slice Ao98 t300.length co98)).heap[gb294]? = some (.cells #[.int .i64 a0_0, u295001, .slice Ao98 t300.length co98] 28 (0, 0))) := ⟨by (with_reducible repeat (first | refine yN ?_ _ | refine yD ?_ | refine yA ?_ _)); refine yP (cs := #[.int .i64 a0_0, u295001, .slice none 0 0]) ?_ 2 _ rfl; (with_reducible repeat (first | refine yN ?_ _ | refine yD ?_ | refine yA ?_ _)); exact BK294.out⟩
             have n6_ : Aside0 (Below w.heap.size w (w97.setCell ⟨gb294, 2, none⟩ (.slice Ao98 t300.length co98))) := ⟨zH HB.out⟩
             (try clear p0'); (try clear HO302); (try clear BK282); (try clear BK283); (try clear BK290); (try clear BK294); (try clear HB)
             generalize (w97.setCell ⟨gb294, 2, none⟩ (.slice Ao98 t300.length co98)) = w101 at n0_ n1_ n2_ n3_ n4_ n5_ n6_ ⊢
             have p0' := n0_
             have HO302 := n1_
             have BK282 := n2_
             have BK283 := n3_
             have BK290 := n4_
             have BK294 := n5_
             have HB := n6_
             clear n0_ n1_ n2_ n3_ n4_ n5_ n6_
             replace p0' := aM (xD p0'.out)
             replace HO302 := aM (xD HO302.out)
             replace BK282 := aM (yD BK282.out)
             replace BK283 := aM (yD BK283.out)
             replace BK290 := aM (yD BK290.out)
             replace BK294 := aM (yD BK294.out)
             replace HB := aM (zD HB.out)
             obtain ⟨Ao104, co104, eo104⟩ := Kd.R_slice p0'.out
             (first | subst eo104 | obtain ⟨rfl, rfl⟩ := eI eo104)
             refine start_ (n := 6) (S := fun w' => w'.cell? ⟨gb294, 0, none⟩ = some (.int .i64 a0_0) ∧ w'.cell? ⟨gb294, 1, none⟩ = some (.slice Ao104 x295001_3.length co104) ∧ w'.cell? ⟨gb294, 2, none⟩ = some (.slice Ao98 t300.length co98) ∧ w'.cell? ⟨gb290, 0, none⟩ = some (.int .i64 ((rd_T45 l0_1 x7_2).f0)) ∧ w'.cell? ⟨gb290, 1, none⟩ = some (.int .i64 x291001_3)) (ds := []) #[fF,fF,fF,fF,fF,fF] (by kernel_rfl) rfl rfl ⟨yc BK294.out 0, yc BK294.out 1, yc BK294.out 2, yc BK290.out 0, yc BK290.out 1⟩ (fun hHeld => ?_)
             generalize w101.drew = w102 at p0' HO302 BK282 BK283 BK290 BK294 HB hHeld ⊢
             refine pure_ (i := 1) (N := some 87) (v := ?_) (a' := ?_) #[fF,tT,fF,fF,fF,fF] rfl rfl (by kernel_rfl) (fun _ _ _ h => h) (Or.inl ⟨by rfl, ?_⟩) ?_ ?_
             rotate_left
             ·intro w'
              go_simp
              with_reducible rfl
             rotate_left
             ·simp only [Act.put, qA, qB, qC, i64_w, i32_w]
              rfl
             refine take_ (i := 0) (N := some 86) (v := ?_) (a' := ?_) #[tT,tT,fF,fF,fF,fF] rfl rfl (by kernel_rfl) (fun _ _ _ h => h) (Or.inl ⟨by rfl, ?_⟩) hHeld ?_ ?_
             rotate_left
             ·rintro w' ⟨s0, s1, s2, s3, s4⟩
              go_simp
              with_reducible rfl
             rotate_left
             ·simp only [Act.put, qA, qB, qC, i64_w, i32_w]
              rfl
             refine take_ (i := 2) (N := some 88) (v := ?_) (a' := ?_) #[tT,tT,tT,fF,fF,fF] rfl rfl (by kernel_rfl) (fun _ _ _ h => h) (Or.inl ⟨by rfl, ?_⟩) hHeld ?_ ?_
             rotate_left
             ·rintro w' ⟨s0, s1, s2, s3, s4⟩
              go_simp
              with_reducible rfl
             rotate_left
             ·simp only [Act.put, qA, qB, qC, i64_w, i32_w]
              rfl
             refine one_ (i := 3) (N := none) #[tT,tT,tT,tT,fF,fF] rfl rfl (by kernel_rfl) (by decide) (fun K hK => ?_)
             have hs103 : w102.cell? ⟨gb283, 0, none⟩ = some (.int .i64 0) := yc BK283.out 0
             have hfs103 := yZ BK283.out 0
             have hns103_0 := NB282_283.out
             have hns103_2 := NB290_283.out
             have hns103_3 := NB294_283.out
             have hms103_0 := NB283_282.out
             have hms103_2 := NB283_290.out
             have hms103_3 := NB283_294.out
             have hs105 : w102.cell? ⟨gb283, 1, none⟩ = some (.slice none 0 0) := yc BK283.out 1
             have hfs105 := yZ BK283.out 1
             have hns105_0 := NB282_283.out
             have hns105_2 := NB290_283.out
             have hns105_3 := NB294_283.out
             have hms105_0 := NB283_282.out
             have hms105_2 := NB283_290.out
             have hms105_3 := NB283_294.out
             have hs106 : w102.cell? ⟨gb283, 2, none⟩ = some (.slice none 0 0) := yc BK283.out 2
             have hfs106 := yZ BK283.out 2
             have hns106_0 := NB282_283.out
             have hns106_2 := NB290_283.out
             have hns106_3 := NB294_283.out
             have hms106_0 := NB283_282.out
             have hms106_2 := NB283_290.out
             have hms106_3 := NB283_294.out
             refine skip_ (w1 := ?_) (by rfl) rfl ?_ ?_
             rotate_left
             ·go_simp
              rfl
             refine hK.out _ _ ⟨((cell_far (p := ⟨gb283, _, none⟩) NB294_283.out _).trans (((cell_far (p := ⟨gb283, _, none⟩) NB294_283.out _).trans (((cell_far (p := ⟨gb283, _, none⟩) NB294_283.out _).trans (hHeld.1)))))), ((cell_far (p := ⟨gb283, _, none⟩) NB294_283.out _).trans (((cell_far (p := ⟨gb283, _, none⟩) NB294_283.out _).trans (((cell_far (p := ⟨gb283, _, none⟩) NB294_283.out _).trans (hHeld.2.1)))))), ((cell_far (p := ⟨gb283, _, none⟩) NB294_283.out _).trans (((cell_far (p := ⟨gb283, _, none⟩) NB294_283.out _).trans (((cell_far (p := ⟨gb283, _, none⟩) NB294_283.out _).trans (hHeld.2.2.1)))))), ((cell_far (p := ⟨gb283, _, none⟩) NB290_283.out _).trans (((cell_far (p := ⟨gb283, _, none⟩) NB290_283.out _).trans (((cell_far (p := ⟨gb283, _, none⟩) NB290_283.out _).trans (hHeld.2.2.2.1)))))), ((cell_far (p := ⟨gb283, _, none⟩) NB290_283.out _).trans (((cell_far (p := ⟨gb283, _, none⟩) NB290_283.out _).trans (((cell_far (p := ⟨gb283, _, none⟩) NB290_283.out _).trans (hHeld.2.2.2.2))))))⟩ (fun hHeld => ?_)
             clear hK K
             refine pure_ (i := 4) (N := some 5) (v := ?_) (a' := ?_) #[tT,tT,tT,tT,tT,fF] rfl rfl (by kernel_rfl) (fun _ _ _ h => h) (Or.inl ⟨by rfl, ?_⟩) ?_ ?_
             rotate_left
             ·intro w'
              go_simp
              with_reducible rfl
             rotate_left
             ·simp only [Act.put, qA, qB, qC, i64_w, i32_w]
              rfl
             refine pure_ (i := 5) (N := some 6) (v := ?_) (a' := ?_) #[tT,tT,tT,tT,tT,tT] rfl rfl (by kernel_rfl) (fun _ _ _ h => h) (Or.inl ⟨by rfl, ?_⟩) ?_ ?_
             rotate_left
             ·intro w'
              go_simp
              with_reducible rfl
             rotate_left
             ·simp only [Act.put, qA, qB, qC, i64_w, i32_w]
              rfl
             refine done_ (by kernel_rfl) ?_
             try go_wp2
             refine bodyPost_ret (results_ctt rfl _ _ gb283 28 #[.int .i64 a0_0, .slice Ao104 x295001_3.length co104, .slice Ao98 t300.length co98] (0, 0) _ rfl (by (with_reducible repeat (first | refine yN ?_ _ | refine yD ?_ | refine yA ?_ _)); refine yP (cs := #[.int .i64 a0_0, .slice Ao104 x295001_3.length co104, .slice none 0 0]) ?_ 2 _ rfl; (with_reducible repeat (first | refine yN ?_ _ | refine yD ?_ | refine yA ?_ _)); refine yP (cs := #[.int .i64 a0_0, .slice none 0 0, .slice none 0 0]) ?_ 1 _ rfl; (with_reducible repeat (first | refine yN ?_ _ | refine yD ?_ | refine yA ?_ _)); refine yP (cs := #[.int .i64 0, .slice none 0 0, .slice none 0 0]) ?_ 0 _ rfl; (with_reducible repeat (first | refine yN ?_ _ | refine yD ?_ | refine yA ?_ _)); exact BK283.out) Try.underlying28 rfl (by kernel_rfl)) rfl ?_
             exact ⟨_, _, by first | rfl | (simp [errW_none, errW_some] <;> rfl) | (simp [*, errW_none, errW_some] <;> rfl), xH (xM (xF (p := ⟨gb283, 2, none⟩) (xF (p := ⟨gb283, 1, none⟩) (xF (p := ⟨gb283, 0, none⟩) (xT p0'.out BK283.out (by decide)) (fun _ hk => hk.2) (.int .i64 a0_0)) (fun _ hk => hk.2) (.slice Ao104 x295001_3.length co104)) (fun _ hk => hk.2) (.slice Ao98 t300.length co98)) (fun _ hk => hk.1.1)), xH (xM (xF (p := ⟨gb283, 2, none⟩) (xF (p := ⟨gb283, 1, none⟩) (xF (p := ⟨gb283, 0, none⟩) (xT HO302.out BK283.out (by decide)) (fun _ hk => hk.2) (.int .i64 a0_0)) (fun _ hk => hk.2) (.slice Ao104 x295001_3.length co104)) (fun _ hk => hk.2) (.slice Ao98 t300.length co98)) (fun _ hk => hk.1.1)), zH HB.out⟩
         ·rw [if_neg c57] at H
          exact absurd H (by simp)
        ·rw [if_neg c56] at H
         exact absurd H (by simp)

end Go.Proofs.Ytbjcioihomeikaa.PFnExactTakeBlock
