/- The walks of FnBuddies: Go's calls come to what the Lean functions beside them say; no condition. -/
import Derived.Test.YtbjcioihomeikaaQFnBuddiesx0
import Derived.Test.YtbjcioihomeikaaQFnBuddiesx6
import Derived.Test.YtbjcioihomeikaaQFnBuddiesx8
import Derived.Test.YtbjcioihomeikaaQFnBuddiesx9
import Derived.Test.YtbjcioihomeikaaQFnBuddiesx10
namespace Go.Proofs.Ytbjcioihomeikaa.PFnBuddies
open Go.RowKit Go.Proofs.YtbjcioihomeikaaW.PrintWords Go.Proofs.YtbjcioihomeikaaW.PrintLast Go.Proofs.YtbjcioihomeikaaW.PrintMore
attribute [local go_sem] max2_int min2_int max_two min_two max_three min_three max_four min_four   -- for this text's walks alone
set_option linter.unusedVariables false
set_option linter.unusedSimpArgs false
set_option maxRecDepth 100000

/-! ### impl_TakeBlock: function 16 -/
mutual
def impl_TakeBlock.j0 : Nat → Int → Bool → Int → List (S45) → List (S45) → Option (Int × (List (S45)) × (List (S45)) × Int × Bool)
 | 0, _, _, _, _, _ => none
 | k + 1, x1, x21, x295000, x295001, x295002 => if x21 = true then (some (0, ([] : List (S45)), ([] : List (S45)), 0, false)) else (impl_TakeBlock.l0 k x1 (-1) x295001 (x295001.length : Int) 0 x295000 x295001 x295002)
def impl_TakeBlock.l0 : Nat → Int → Int → List (S45) → Int → Int → Int → List (S45) → List (S45) → Option (Int × (List (S45)) × (List (S45)) × Int × Bool)
 | 0, _, _, _, _, _, _, _, _ => none
 | k + 1, x1, x7, x24, x25, x26, x295000, x295001, x295002 => if x26 < x25 then (if 0 ≤ x26 then (if x26 < (x24.length : Int) then (if ((rd_T45 x24 x26).f1) ≥ x1 then (if x7 < 0 then (impl_TakeBlock.l0 k x1 x26 x24 x25 (wrap64 (x26 + 1)) x295000 x295001 x295002) else (if 0 ≤ x7 then (if x7 < (x295001.length : Int) then (if ((rd_T45 x24 x26).f1) < ((rd_T45 x295001 x7).f1) then (impl_TakeBlock.l0 k x1 x26 x24 x25 (wrap64 (x26 + 1)) x295000 x295001 x295002) else (impl_TakeBlock.l0 k x1 x7 x24 x25 (wrap64 (x26 + 1)) x295000 x295001 x295002)) else (none)) else (none))) else (impl_TakeBlock.l0 k x1 x7 x24 x25 (wrap64 (x26 + 1)) x295000 x295001 x295002)) else (none)) else (none)) else (if x7 < 0 then (some (0, ([] : List (S45)), ([] : List (S45)), 0, false)) else (if 0 ≤ x7 then (if x7 < (x295001.length : Int) then ((impl_lacking.f x295001 ((rd_T45 x295001 x7).f0) ((rd_T45 x295001 x7).f1)).bind fun t303 => (impl_TakeBlock.l1 k x1 x295000 x295001 x295002 ((rd_T45 x295001 x7).f0) ((rd_T45 x295001 x7).f1) x295000 t303)) else (none)) else (none)))
def impl_TakeBlock.l1 : Nat → Int → Int → List (S45) → List (S45) → Int → Int → Int → List (S45) → Option (Int × (List (S45)) × (List (S45)) × Int × Bool)
 | 0, _, _, _, _, _, _, _, _ => none
 | k + 1, x1, x295000, x295001, x295002, x303000, x303001, x307000, x307001 => if x303001 > x1 then ((impl_Block_buddy.f x303000 (wrap64 (x303001 - 1))).bind fun bt307 => ((impl_with.f x307001 bt307.1 bt307.2).bind fun t309 => (impl_TakeBlock.l1 k x1 x295000 x295001 x295002 x303000 (wrap64 (x303001 - 1)) x307000 t309))) else ((impl_with.f x295002 x303000 x303001).bind fun t312 => (some (x307000, x307001, t312, x303000, true)))
end
def impl_TakeBlock.f (k : Nat) (a0_0 : Int) (l0_1 : List (S45)) (l0_2 : List (S45)) (a1 : Int) : Option (Int × (List (S45)) × (List (S45)) × Int × Bool) := (impl_GoodBuddy.f k a0_0 l0_1 l0_2).bind fun t296 => (if t296 = true then ((impl_within.f a1 0 a0_0).bind fun t297 => (impl_TakeBlock.j0 k a1 (!t297) a0_0 l0_1 l0_2)) else (impl_TakeBlock.j0 k a1 true a0_0 l0_1 l0_2))
theorem impl_TakeBlock.mono_l : ∀ k, (∀ y0 y1 y2 y3 y4, LeO (impl_TakeBlock.j0 k y0 y1 y2 y3 y4) (impl_TakeBlock.j0 (k + 1) y0 y1 y2 y3 y4)) ∧ (∀ y0 y1 y2 y3 y4 y5 y6 y7, LeO (impl_TakeBlock.l0 k y0 y1 y2 y3 y4 y5 y6 y7) (impl_TakeBlock.l0 (k + 1) y0 y1 y2 y3 y4 y5 y6 y7)) ∧ (∀ y0 y1 y2 y3 y4 y5 y6 y7, LeO (impl_TakeBlock.l1 k y0 y1 y2 y3 y4 y5 y6 y7) (impl_TakeBlock.l1 (k + 1) y0 y1 y2 y3 y4 y5 y6 y7))
 | 0 => ⟨fun _ _ _ _ _ r h => by simp [impl_TakeBlock.j0] at h, fun _ _ _ _ _ _ _ _ r h => by simp [impl_TakeBlock.l0] at h, fun _ _ _ _ _ _ _ _ r h => by simp [impl_TakeBlock.l1] at h⟩
 | k + 1 => by
  obtain ⟨ih0, ih1, ih2⟩ := impl_TakeBlock.mono_l k
  refine ⟨?_, ?_, ?_⟩
  ·intro y0 y1 y2 y3 y4
   unfold impl_TakeBlock.j0
   repeat' first
   | (with_reducible exact ih0 _ _ _ _ _)
   | (with_reducible exact ih1 _ _ _ _ _ _ _ _)
   | (with_reducible exact ih2 _ _ _ _ _ _ _ _)
   | (with_reducible exact impl_GoodBuddy.mono _ _ _ _)
   | (with_reducible exact LeO.refl _)
   | (with_reducible exact LeO.none _)
   | (with_reducible refine LeO.ite ?_ ?_)
   | (with_reducible refine LeO.bind ?_ (fun _ => ?_))
   | exact ih0 _ _ _ _ _
   | exact ih1 _ _ _ _ _ _ _ _
   | exact ih2 _ _ _ _ _ _ _ _
   | exact impl_GoodBuddy.mono _ _ _ _
   | exact LeO.none _
   | refine LeO.ite ?_ ?_
   | refine LeO.bind ?_ (fun _ => ?_)
  ·intro y0 y1 y2 y3 y4 y5 y6 y7
   unfold impl_TakeBlock.l0
   repeat' first
   | (with_reducible exact ih0 _ _ _ _ _)
   | (with_reducible exact ih1 _ _ _ _ _ _ _ _)
   | (with_reducible exact ih2 _ _ _ _ _ _ _ _)
   | (with_reducible exact impl_GoodBuddy.mono _ _ _ _)
   | (with_reducible exact LeO.refl _)
   | (with_reducible exact LeO.none _)
   | (with_reducible refine LeO.ite ?_ ?_)
   | (with_reducible refine LeO.bind ?_ (fun _ => ?_))
   | exact ih0 _ _ _ _ _
   | exact ih1 _ _ _ _ _ _ _ _
   | exact ih2 _ _ _ _ _ _ _ _
   | exact impl_GoodBuddy.mono _ _ _ _
   | exact LeO.none _
   | refine LeO.ite ?_ ?_
   | refine LeO.bind ?_ (fun _ => ?_)
  ·intro y0 y1 y2 y3 y4 y5 y6 y7
   unfold impl_TakeBlock.l1
   repeat' first
   | (with_reducible exact ih0 _ _ _ _ _)
   | (with_reducible exact ih1 _ _ _ _ _ _ _ _)
   | (with_reducible exact ih2 _ _ _ _ _ _ _ _)
   | (with_reducible exact impl_GoodBuddy.mono _ _ _ _)
   | (with_reducible exact LeO.refl _)
   | (with_reducible exact LeO.none _)
   | (with_reducible refine LeO.ite ?_ ?_)
   | (with_reducible refine LeO.bind ?_ (fun _ => ?_))
   | exact ih0 _ _ _ _ _
   | exact ih1 _ _ _ _ _ _ _ _
   | exact ih2 _ _ _ _ _ _ _ _
   | exact impl_GoodBuddy.mono _ _ _ _
   | exact LeO.none _
   | refine LeO.ite ?_ ?_
   | refine LeO.bind ?_ (fun _ => ?_)
theorem impl_TakeBlock.mono : ∀ a0 a1 a2 a3 k, LeO (impl_TakeBlock.f k a0 a1 a2 a3) (impl_TakeBlock.f (k + 1) a0 a1 a2 a3) := by
 intro a0 a1 a2 a3 k
 obtain ⟨ih0, ih1, ih2⟩ := impl_TakeBlock.mono_l k
 unfold impl_TakeBlock.f
 repeat' first
   | (with_reducible exact ih0 _ _ _ _ _)
   | (with_reducible exact ih1 _ _ _ _ _ _ _ _)
   | (with_reducible exact ih2 _ _ _ _ _ _ _ _)
   | (with_reducible exact impl_GoodBuddy.mono _ _ _ _)
   | (with_reducible exact LeO.refl _)
   | (with_reducible exact LeO.none _)
   | (with_reducible refine LeO.ite ?_ ?_)
   | (with_reducible refine LeO.bind ?_ (fun _ => ?_))
   | exact ih0 _ _ _ _ _
   | exact ih1 _ _ _ _ _ _ _ _
   | exact ih2 _ _ _ _ _ _ _ _
   | exact impl_GoodBuddy.mono _ _ _ _
   | exact LeO.none _
   | refine LeO.ite ?_ ?_
   | refine LeO.bind ?_ (fun _ => ?_)
def impl_TakeBlock.T7 : Bool × List (List Nat × List Nat) := (true, [([], []), ([0], [0]), ([], []), ([1, 2], [1, 2]), ([3], [3]), ([4], [4]), ([5, 4], [4, 5]), ([6, 4, 4], [4, 6]), ([7], [7]), ([8, 7], [7, 8]), ([7], [7]), ([10, 7], [7, 10]), ([7], [7]), ([11, 12, 7], [7, 11, 12]), ([13, 7], [7, 13]), ([14, 7], [7, 14]), ([9, 15, 7], [7, 9, 15]), ([7, 16, 4], [4, 7, 16]), ([4, 17], [4, 17])])
def impl_TakeBlock.B7 : List Nat := [0, 1, 0, 7, 15, 31, 63, 127, 255, 511, 255, 1279, 255, 7423, 15615, 31999, 65535, 131071, 262143]
theorem impl_TakeBlock.tab7 : rtab .any (opsOf Try.f16 7) = impl_TakeBlock.T7 := by kernel_rfl
theorem impl_TakeBlock.bits7 : waitsOk impl_TakeBlock.T7.2 impl_TakeBlock.B7 = true := by kernel_rfl
def impl_TakeBlock.T13 : Bool × List (List Nat × List Nat) := (true, [([], []), ([0], [0]), ([], []), ([2], [2]), ([], []), ([3, 4], [3, 4]), ([1, 5], [1, 5]), ([], []), ([7, 6, 5, 0, 1, 2, 3, 4, 5, 6, 7], [6, 7])])
def impl_TakeBlock.B13 : List Nat := [0, 1, 0, 4, 0, 28, 63, 0, 255]
theorem impl_TakeBlock.tab13 : rtab .any (opsOf Try.f16 13) = impl_TakeBlock.T13 := by kernel_rfl
theorem impl_TakeBlock.bits13 : waitsOk impl_TakeBlock.T13.2 impl_TakeBlock.B13 = true := by kernel_rfl
set_option maxHeartbeats 8000000 in
set_option maxRecDepth 100000 in
theorem impl_TakeBlock.calls (k : Nat) (a0_0 : Int) (A0_1 : Option Addr) (c0_1 : Nat) (l0_1 : List (S45)) (A0_2 : Option Addr) (c0_2 : Nat) (l0_2 : List (S45)) (a1 : Int) (r1 : Int) (r2 : List (S45)) (r3 : List (S45)) (r4 : Int) (r5 : Bool) (w : World) (hr0_1 : Kd.C k45 w A0_1 l0_1.length l0_1) (hc0_1 : l0_1.length ≤ c0_1) (hr0_2 : Kd.C k45 w A0_2 l0_2.length l0_2) (hc0_2 : l0_2.length ≤ c0_2) (h : impl_TakeBlock.f k a0_0 l0_1 l0_2 a1 = some (r1, r2, r3, r4, r5)) :
  Calls Try.prog 16 #[.agg #[.int .i64 a0_0, .slice A0_1 l0_1.length c0_1, .slice A0_2 l0_2.length c0_2], .int .i64 a1] w fun e w' => ∃ v1_ v2_ : Value, e = .returned (.tuple #[.agg #[.int .i64 r1, v1_, v2_], .int .i64 r4, .bool r5]) ∧ Kd.R k45 45 w' w.heap.size (fun k_ => some k_ ≠ (v2_ : Value).ownBlock) v1_ r2 ∧ Kd.R k45 45 w' w.heap.size (fun k_ => some k_ ≠ (v1_ : Value).ownBlock) v2_ r3 ∧ Below w.heap.size w w' := by
 have hu28 := Try.underlying28; have hu45 := Try.underlying45; have HR0_1 := aM hr0_1; have HC0_1 := aM hc0_1; clear hr0_1 hc0_1; have HR0_2 := aM hr0_2; have HC0_2 := aM hc0_2; clear hr0_2 hc0_2; have HB := aM (Below.refl w.heap.size w)
 have H : ((impl_GoodBuddy.f k a0_0 l0_1 l0_2).bind fun t296 => (if t296 = true then ((impl_within.f a1 0 a0_0).bind fun t297 => (impl_TakeBlock.j0 k a1 (!t297) a0_0 l0_1 l0_2)) else (impl_TakeBlock.j0 k a1 true a0_0 l0_1 l0_2))) = some (r1, r2, r3, r4, r5) := h
 clear h; have HC3 := aM H; clear H
 go_enter Try.func16, Try.ntmps16
 go_upto_region 1 with (first | ((with_reducible refine gate_dst (N := 2) rfl ?_); refine bE 2 #[.int .i64 a0_0, .slice A0_1 l0_1.length c0_1, .slice A0_2 l0_2.length c0_2] 28 ?_; intro gb294 hg w4 hbox hb; have BK294 := aM (hbox); have GW294 := gW hg HB.out; have GE294 := GW294; replace HB := aM (zT (zH HB.out) hb); clear hb hbox hg) | ((with_reducible refine gate_dst (N := 4) rfl ?_); refine bE 4 #[.int .i64 0, .slice none 0 0, .slice none 0 0] 28 ?_; intro gb295 hg w5 hbox hb; have BK295 := aM (hbox); have GW295 := gW hg HB.out; have GE295 := GW295; replace HB := aM (zT (zH HB.out) hb); have NB294_295 := nL BK294.out hg; have NB295_294 := nR BK294.out hg; replace BK294 := yK BK294.out hb; clear hb hbox hg))
 (try simp only [Act.put, qA, qB, qC])
 go_cut [21] (fun v21 wc => ∃ (kq : Nat) (x21_2 : Bool), v21 = .bool x21_2 ∧ Aside0 (impl_TakeBlock.j0 kq a1 x21_2 a0_0 l0_1 l0_2 = some (r1, r2, r3, r4, r5)) ∧ Aside0 (kq ≤ k) ∧ Aside0 (wc.heap[gb294]? = some (.cells #[.int .i64 a0_0, (.slice A0_1 l0_1.length c0_1), (.slice A0_2 l0_2.length c0_2)] 28 (0, 0))) ∧ Aside0 (wc.heap[gb295]? = some (.cells #[.int .i64 0, (.slice none 0 0), (.slice none 0 0)] 28 (0, 0))) ∧ Aside0 (Below w.heap.size w wc))
 case first =>
  have H := HC3.out; clear HC3; replace H := Option.bind_eq_some_iff.mp H; obtain ⟨t296, A60, H⟩ := H
  replace H : (if t296 = true then ((impl_within.f a1 0 a0_0).bind fun t297 => (impl_TakeBlock.j0 k a1 (!t297) a0_0 l0_1 l0_2)) else (impl_TakeBlock.j0 k a1 true a0_0 l0_1 l0_2)) = some (r1, r2, r3, r4, r5) := H
  have A6 := aM A60; clear A60
  by_cases c7 : t296 = true
  ·subst c7
   have H1 : ((impl_within.f a1 0 a0_0).bind fun t297 => (impl_TakeBlock.j0 k a1 (!t297) a0_0 l0_1 l0_2)) = some (r1, r2, r3, r4, r5) := by rw [if_pos rfl] at H; exact H
   clear H; have H := H1; clear H1; replace H := Option.bind_eq_some_iff.mp H; obtain ⟨t297, A80, H⟩ := H; replace H : (impl_TakeBlock.j0 k a1 (!t297) a0_0 l0_1 l0_2) = some (r1, r2, r3, r4, r5) := H; have A8 := aM A80; clear A80; have H' := aM H; clear H; have M9 := NB294_295.out; have L9 := NB295_294.out; obtain ⟨Z10_0, Z10_1, Z10_2, Y10_0, Y10_1, Y10_2⟩ := y3 BK294.out
   go_wp2_with (first | ((with_reducible refine gate_callee (f := 19) rfl ?_); refine goesL_ (some 13) rfl rfl Try.func19 (by kernel_rfl) rfl #[.agg #[.int .i64 a0_0, .slice A0_1 l0_1.length c0_1, .slice A0_2 l0_2.length c0_2]] rfl mA ?_; (with_reducible refine (impl_GoodBuddy.calls k a0_0 _ _ l0_1 _ _ l0_2 true _ ?side1 ?side2 ?side3 ?side4 A6.out).mono ?_); (case side1 => exact cK HR0_1.out HB.out); (case side2 => exact HC0_1.out); (case side3 => exact cK HR0_2.out HB.out); (case side4 => exact HC0_2.out); rintro e w11 ⟨rfl, hb⟩; refine ⟨_, rfl, ?_⟩; replace BK294 := yK BK294.out hb; replace BK295 := yK BK295.out hb; replace HB := aM (zT (zH HB.out) hb); (try clear hb); obtain ⟨Z12_0, Z12_1, Z12_2, Y12_0, Y12_1, Y12_2⟩ := y3 BK294.out) | (go_at_call 44; (with_reducible refine (impl_within.calls a1 0 a0_0 t297 _ A8.out).mono ?_); rintro e w' ⟨rfl, ⟨nd, rfl⟩⟩))
   go_meet
   case rel => exact ⟨_, (!t297), (by first | rfl | (simp; done) | (simp [*]; done)), H', ⟨by first | omega | exact Nat.le_refl _⟩, ⟨yH BK294.out⟩, ⟨yH BK295.out⟩, ⟨zH HB.out⟩⟩
  ·replace c7 := Bool.eq_false_iff.mpr c7
   subst c7
   have H1 : (impl_TakeBlock.j0 k a1 true a0_0 l0_1 l0_2) = some (r1, r2, r3, r4, r5) := by rw [if_neg (show ¬ (false = true) by decide)] at H; exact H
   clear H; have H := H1; clear H1; have H' := aM H; clear H; have M13 := NB294_295.out; have L13 := NB295_294.out; obtain ⟨Z14_0, Z14_1, Z14_2, Y14_0, Y14_1, Y14_2⟩ := y3 BK294.out
   go_wp2_with (first | ((with_reducible refine gate_callee (f := 19) rfl ?_); refine goesL_ (some 13) rfl rfl Try.func19 (by kernel_rfl) rfl #[.agg #[.int .i64 a0_0, .slice A0_1 l0_1.length c0_1, .slice A0_2 l0_2.length c0_2]] rfl mA ?_; (with_reducible refine (impl_GoodBuddy.calls k a0_0 _ _ l0_1 _ _ l0_2 false _ ?side1 ?side2 ?side3 ?side4 A6.out).mono ?_); (case side1 => exact cK HR0_1.out HB.out); (case side2 => exact HC0_1.out); (case side3 => exact cK HR0_2.out HB.out); (case side4 => exact HC0_2.out); rintro e w15 ⟨rfl, hb⟩; refine ⟨_, rfl, ?_⟩; replace BK294 := yK BK294.out hb; replace BK295 := yK BK295.out hb; replace HB := aM (zT (zH HB.out) hb); (try clear hb)))
   go_meet
   case rel => exact ⟨_, (true), (by first | rfl | (simp; done) | (simp [*]; done)), H', ⟨by first | omega | exact Nat.le_refl _⟩, ⟨yH BK294.out⟩, ⟨yH BK295.out⟩, ⟨zH HB.out⟩⟩
 case rest =>
  clear HC3
  (try clear c7); (try clear Z10_0 Z10_1 Z10_2 Y10_0 Y10_1 Y10_2); (try clear Z12_0 Z12_1 Z12_2 Y12_0 Y12_1 Y12_2); (try clear Z14_0 Z14_1 Z14_2 Y14_0 Y14_1 Y14_2)
  obtain ⟨kq, x21_2, rfl, HA, HJ2, BK294, BK295, HB⟩ := hcut
  cases kq with
  | zero => exact absurd HA.out (fun h_ => by change none = some _ at h_; cases h_)
  | succ kj2 =>
   have H := HA.out; clear HA
   simp only [impl_TakeBlock.j0] at H
   by_cases c16 : x21_2 = true
   ·subst c16
    have H1 : (some (0, ([] : List (S45)), ([] : List (S45)), 0, false)) = some (r1, r2, r3, r4, r5) := by rw [if_pos rfl] at H; exact H
    clear H; have H := H1; clear H1
    simp only [Option.some.injEq, Prod.mk.injEq] at H
    obtain ⟨rfl, rfl, rfl, rfl, rfl⟩ := H; have M17 := NB295_294.out; have L17 := NB294_295.out; have Z18_0 : wc.cell? ⟨gb295, 0, none⟩ = some (.int .i64 0) := yc BK295.out 0; have Z18_1 : wc.cell? ⟨gb295, 1, none⟩ = some (.slice none 0 0) := yc BK295.out 1; have Z18_2 : wc.cell? ⟨gb295, 2, none⟩ = some (.slice none 0 0) := yc BK295.out 2; have Y18_0 := yZ BK295.out 0; have Y18_1 := yZ BK295.out 1; have Y18_2 := yZ BK295.out 2
    go_wp2
    refine bodyPost_ret (results_ctt rfl _ _ gb295 28 #[.int .i64 0, .slice none 0 0, .slice none 0 0] (0, 0) _ rfl (by refine yW ?_; refine yP (cs := #[.int .i64 0, .slice none 0 0, .slice none 0 0]) ?_ 2 _ rfl; refine yW ?_; refine yP (cs := #[.int .i64 0, .slice none 0 0, .slice none 0 0]) ?_ 1 _ rfl; refine yW ?_; refine yP (cs := #[.int .i64 0, .slice none 0 0, .slice none 0 0]) ?_ 0 _ rfl; refine yW ?_; exact BK295.out) Try.underlying28 rfl (by kernel_rfl)) rfl ?_
    exact ⟨_, _, eW, by first | exact Kd.R_nil _ _ _ _ _ | exact Kd.N_nil _ _ _ _ _ | exact Kd.V_nil _ _ _ _ _ | exact Kd.Q_nil _ _ _ _ _ | exact Kd.S_nil _ _ _ _ _, by first | exact Kd.R_nil _ _ _ _ _ | exact Kd.N_nil _ _ _ _ _ | exact Kd.V_nil _ _ _ _ _ | exact Kd.Q_nil _ _ _ _ _ | exact Kd.S_nil _ _ _ _ _, zH HB.out⟩
   ·replace c16 := Bool.eq_false_iff.mpr c16
    subst c16
    have H1 : (impl_TakeBlock.l0 kj2 a1 (-1) l0_1 (l0_1.length : Int) 0 a0_0 l0_1 l0_2) = some (r1, r2, r3, r4, r5) := by rw [if_neg (show ¬ (false = true) by decide)] at H; exact H
    clear H; have H := H1; clear H1; have H' := aM H; clear H; have M19 := NB294_295.out; have L19 := NB295_294.out; have Z20_0 : wc.cell? ⟨gb294, 0, none⟩ = some (.int .i64 a0_0) := yc BK294.out 0; have Z20_1 : wc.cell? ⟨gb294, 1, none⟩ = some (.slice A0_1 l0_1.length c0_1) := yc BK294.out 1; have Z20_2 : wc.cell? ⟨gb294, 2, none⟩ = some (.slice A0_2 l0_2.length c0_2) := yc BK294.out 2; have Y20_0 := yZ BK294.out 0; have Y20_1 := yZ BK294.out 1; have Y20_2 := yZ BK294.out 2
    go_wp2
    go_loopg [7, 26] kj2 (fun kq v7 v26 w' => ∃ (x7_2 : Int) (x26_2 : Int), v7 = .int .i64 x7_2 ∧ v26 = .int .i64 x26_2 ∧ Aside0 (impl_TakeBlock.l0 kq a1 x7_2 l0_1 (l0_1.length : Int) x26_2 a0_0 l0_1 l0_2 = some (r1, r2, r3, r4, r5)) ∧ Aside0 (kq ≤ kj2) ∧ Aside0 (w'.heap[gb294]? = some (.cells #[.int .i64 a0_0, (.slice A0_1 l0_1.length c0_1), (.slice A0_2 l0_2.length c0_2)] 28 (0, 0))) ∧ Aside0 (w'.heap[gb295]? = some (.cells #[.int .i64 0, (.slice none 0 0), (.slice none 0 0)] 28 (0, 0))) ∧ Aside0 (Below w.heap.size w w'))
    case atStart => exact ⟨((-1)), (0), (by first | rfl | (simp; done) | (simp [*]; done)), (by first | rfl | (simp; done) | (simp [*]; done)), H', ⟨Nat.le_refl _⟩, ⟨yH BK294.out⟩, ⟨yH BK295.out⟩, ⟨zH HB.out⟩⟩
    case round =>
     clear H'
     (try clear c7); (try clear c16); (try clear Z10_0 Z10_1 Z10_2 Y10_0 Y10_1 Y10_2); (try clear Z12_0 Z12_1 Z12_2 Y12_0 Y12_1 Y12_2); (try clear Z14_0 Z14_1 Z14_2 Y14_0 Y14_1 Y14_2); (try clear Z18_0 Z18_1 Z18_2 Y18_0 Y18_1 Y18_2); (try clear Z20_0 Z20_1 Z20_2 Y20_0 Y20_1 Y20_2)
     obtain ⟨x7_2, x26_2, rfl, rfl, HA, HK2, BK294, BK295, HB⟩ := hrel
     cases gk with
     | zero => exact absurd HA.out (fun h_ => by change none = some _ at h_; cases h_)
     | succ k2 =>
      have H := HA.out; clear HA
      simp only [impl_TakeBlock.l0] at H
      by_cases c21 : x26_2 < (l0_1.length : Int)
      ·rw [if_pos c21] at H
       have c21b0 : decide (x26_2 < (l0_1.length : Int)) = true := decide_eq_true c21; clear c21
       by_cases c22 : 0 ≤ x26_2
       ·rw [if_pos c22] at H
        have c22b0 : decide (0 ≤ x26_2) = true := decide_eq_true c22; clear c22
        by_cases c23 : x26_2 < (l0_1.length : Int)
        ·rw [if_pos c23] at H
         have c23b0 : decide (x26_2 < (l0_1.length : Int)) = true := decide_eq_true c23; clear c23
         by_cases c24 : ((rd_T45 l0_1 x26_2).f1) ≥ a1
         ·rw [if_pos c24] at H
          have c24b0 : decide (a1 ≤ ((rd_T45 l0_1 x26_2).f1)) = true := decide_eq_true c24; clear c24
          by_cases c25 : x7_2 < 0
          ·rw [if_pos c25] at H
           have c25b0 : decide (x7_2 < 0) = true := decide_eq_true c25; clear c25; have H' := aM H; clear H
           have p298 : 0 ≤ (x26_2 : Int) := of_decide_eq_true (by first | (with_reducible assumption) | assumption)
           have q298 : x26_2 < (l0_1.length : Int) := of_decide_eq_true (by first | (with_reducible assumption) | assumption)
           obtain ⟨ad298, e298, hx298_0, hx298_1⟩ := at_T45 HR0_1.out x26_2 p298 q298
           cases e298
           replace hx298_0 := (HB.out.cell (World.block_lt_of_cell? w _ hx298_0)).trans hx298_0; replace hx298_1 := (HB.out.cell (World.block_lt_of_cell? w _ hx298_1)).trans hx298_1; replace p298 := eq_true p298; replace q298 := eq_true q298
           try go_wp2_with (first | ((with_reducible refine gate_dst (N := 9) rfl ?_); refine bE 9 #[.int .i64 0, .int .i64 0] 45 ?_; intro gb299 hg w26 hbox hb; have BK299 := aM (hbox); have GW299 := gW hg HB.out; have GE299 := GW299; replace HB := aM (zT (zH HB.out) hb); have NB294_299 := nL BK294.out hg; have NB299_294 := nR BK294.out hg; replace BK294 := yK BK294.out hb; have NB295_299 := nL BK295.out hg; have NB299_295 := nR BK295.out hg; replace BK295 := yK BK295.out hb; clear hb hbox hg; have M27 := NB299_294.out; have L27 := NB294_299.out; have M28 := NB299_295.out; have L28 := NB295_299.out; obtain ⟨Z29_0, Z29_1, Y29_0, Y29_1⟩ := y2 BK299.out))
           have n0_ : Aside0 (((w26.setCell ⟨gb299, 0, none⟩ (.int .i64 ((rd_T45 l0_1 x26_2).f0))).setCell ⟨gb299, 1, none⟩ (.int .i64 ((rd_T45 l0_1 x26_2).f1))).heap[gb294]? = some (.cells #[.int .i64 a0_0, .slice (some ad298) l0_1.length c0_1, .slice A0_2 l0_2.length c0_2] 28 (0, 0))) := yG BK294.out
           have n1_ : Aside0 (((w26.setCell ⟨gb299, 0, none⟩ (.int .i64 ((rd_T45 l0_1 x26_2).f0))).setCell ⟨gb299, 1, none⟩ (.int .i64 ((rd_T45 l0_1 x26_2).f1))).heap[gb295]? = some (.cells #[.int .i64 0, .slice none 0 0, .slice none 0 0] 28 (0, 0))) := yG BK295.out
           have n2_ : Aside0 (((w26.setCell ⟨gb299, 0, none⟩ (.int .i64 ((rd_T45 l0_1 x26_2).f0))).setCell ⟨gb299, 1, none⟩ (.int .i64 ((rd_T45 l0_1 x26_2).f1))).heap[gb299]? = some (.cells #[.int .i64 ((rd_T45 l0_1 x26_2).f0), .int .i64 ((rd_T45 l0_1 x26_2).f1)] 45 (0, 0))) := ⟨by refine yW ?_; refine yP (cs := #[.int .i64 ((rd_T45 l0_1 x26_2).f0), .int .i64 0]) ?_ 1 _ rfl; refine yW ?_; refine yP (cs := #[.int .i64 0, .int .i64 0]) ?_ 0 _ rfl; refine yW ?_; exact BK299.out⟩
           have n3_ : Aside0 (Below w.heap.size w ((w26.setCell ⟨gb299, 0, none⟩ (.int .i64 ((rd_T45 l0_1 x26_2).f0))).setCell ⟨gb299, 1, none⟩ (.int .i64 ((rd_T45 l0_1 x26_2).f1)))) := ⟨zH HB.out⟩
           (try clear BK294); (try clear BK295); (try clear BK299); (try clear HB)
           generalize ((w26.setCell ⟨gb299, 0, none⟩ (.int .i64 ((rd_T45 l0_1 x26_2).f0))).setCell ⟨gb299, 1, none⟩ (.int .i64 ((rd_T45 l0_1 x26_2).f1))) = w30 at n0_ n1_ n2_ n3_ ⊢
           have BK294 := n0_; have BK295 := n1_; have BK299 := n2_; have HB := n3_; clear n0_ n1_ n2_ n3_; replace BK294 := aM (yD BK294.out); replace BK295 := aM (yD BK295.out); replace BK299 := aM (yD BK299.out); replace HB := aM (zD HB.out)
           refine start_ (n := 19) (S := fun w' => w'.cell? ⟨gb299, 0, none⟩ = some (.int .i64 ((rd_T45 l0_1 x26_2).f0)) ∧ w'.cell? ⟨gb299, 1, none⟩ = some (.int .i64 ((rd_T45 l0_1 x26_2).f1))) (ds := []) #[fF,fF,fF,fF,fF,fF,fF,fF,fF,fF,fF,fF,fF,fF,fF,fF,fF,fF,fF] (by kernel_rfl) rfl rfl ⟨yc BK299.out 0, yc BK299.out 1⟩ (fun hHeld => ?_); refine with_tabW impl_TakeBlock.tab7 impl_TakeBlock.bits7 (fun HT_ HW_ => ?_)
           generalize w30.drew = w31 at BK294 BK295 BK299 HB hHeld ⊢
           refine pP 0 31 HT_ ?_
           refine pP 2 33 HT_ ?_
           refine tK 1 32 HT_ HW_ hHeld ?_
           refine pP 3 34 HT_ ?_
           refine pP 4 35 HT_ ?_
           refine pP 5 36 HT_ ?_
           refine pP 6 37 HT_ ?_
           refine pP 7 38 HT_ ?_
           refine pU 8 39 HT_ ?_
           refine pU 9 40 HT_ ?_
           refine pU 10 41 HT_ ?_
           refine pU 11 42 HT_ ?_
           refine pU 12 43 HT_ ?_
           refine pU 13 44 HT_ ?_
           refine pU 14 45 HT_ ?_
           refine pU 15 46 HT_ ?_
           refine pU 16 47 HT_ ?_
           refine pP 17 48 HT_ ?_
           refine pP 18 49 HT_ ?_
           refine done_ (done_of HT_.out (by kernel_rfl)) ?_
           try go_wp2
           go_roundg k2
           case measure => have := HJ2.out; have := HK2.out; omega
           case rel => exact ⟨(x26_2), (wrap64 (x26_2 + 1)), (by first | rfl | (simp; done) | (simp [*]; done)), (by first | rfl | (simp; done) | (simp [*]; done)), H', ⟨by have := HJ2.out; have := HK2.out; omega⟩, ⟨yH BK294.out⟩, ⟨yH BK295.out⟩, ⟨zH HB.out⟩⟩
          ·rw [if_neg c25] at H
           have c25b0 : decide (x7_2 < 0) = false := decide_eq_false c25; clear c25
           by_cases c32 : 0 ≤ x7_2
           ·rw [if_pos c32] at H
            have c32b0 : decide (0 ≤ x7_2) = true := decide_eq_true c32; clear c32
            by_cases c33 : x7_2 < (l0_1.length : Int)
            ·rw [if_pos c33] at H
             have c33b0 : decide (x7_2 < (l0_1.length : Int)) = true := decide_eq_true c33; clear c33
             by_cases c34 : ((rd_T45 l0_1 x26_2).f1) < ((rd_T45 l0_1 x7_2).f1)
             ·rw [if_pos c34] at H
              have c34b0 : decide (((rd_T45 l0_1 x26_2).f1) < ((rd_T45 l0_1 x7_2).f1)) = true := decide_eq_true c34; clear c34; have H' := aM H; clear H
              have p298 : 0 ≤ (x26_2 : Int) := of_decide_eq_true (by first | (with_reducible assumption) | assumption)
              have q298 : x26_2 < (l0_1.length : Int) := of_decide_eq_true (by first | (with_reducible assumption) | assumption)
              obtain ⟨ad298, e298, hx298_0, hx298_1⟩ := at_T45 HR0_1.out x26_2 p298 q298
              cases e298
              replace hx298_0 := (HB.out.cell (World.block_lt_of_cell? w _ hx298_0)).trans hx298_0; replace hx298_1 := (HB.out.cell (World.block_lt_of_cell? w _ hx298_1)).trans hx298_1; replace p298 := eq_true p298; replace q298 := eq_true q298
              try go_wp2_with (first | ((with_reducible refine gate_dst (N := 9) rfl ?_); refine bE 9 #[.int .i64 0, .int .i64 0] 45 ?_; intro gb299 hg w35 hbox hb; have BK299 := aM (hbox); have GW299 := gW hg HB.out; have GE299 := GW299; replace HB := aM (zT (zH HB.out) hb); have NB294_299 := nL BK294.out hg; have NB299_294 := nR BK294.out hg; replace BK294 := yK BK294.out hb; have NB295_299 := nL BK295.out hg; have NB299_295 := nR BK295.out hg; replace BK295 := yK BK295.out hb; clear hb hbox hg; have M36 := NB299_294.out; have L36 := NB294_299.out; have M37 := NB299_295.out; have L37 := NB295_299.out; obtain ⟨Z38_0, Z38_1, Y38_0, Y38_1⟩ := y2 BK299.out))
              have n0_ : Aside0 (((w35.setCell ⟨gb299, 0, none⟩ (.int .i64 ((rd_T45 l0_1 x26_2).f0))).setCell ⟨gb299, 1, none⟩ (.int .i64 ((rd_T45 l0_1 x26_2).f1))).heap[gb294]? = some (.cells #[.int .i64 a0_0, .slice (some ad298) l0_1.length c0_1, .slice A0_2 l0_2.length c0_2] 28 (0, 0))) := yG BK294.out
              have n1_ : Aside0 (((w35.setCell ⟨gb299, 0, none⟩ (.int .i64 ((rd_T45 l0_1 x26_2).f0))).setCell ⟨gb299, 1, none⟩ (.int .i64 ((rd_T45 l0_1 x26_2).f1))).heap[gb295]? = some (.cells #[.int .i64 0, .slice none 0 0, .slice none 0 0] 28 (0, 0))) := yG BK295.out
              have n2_ : Aside0 (((w35.setCell ⟨gb299, 0, none⟩ (.int .i64 ((rd_T45 l0_1 x26_2).f0))).setCell ⟨gb299, 1, none⟩ (.int .i64 ((rd_T45 l0_1 x26_2).f1))).heap[gb299]? = some (.cells #[.int .i64 ((rd_T45 l0_1 x26_2).f0), .int .i64 ((rd_T45 l0_1 x26_2).f1)] 45 (0, 0))) := ⟨by refine yW ?_; refine yP (cs := #[.int .i64 ((rd_T45 l0_1 x26_2).f0), .int .i64 0]) ?_ 1 _ rfl; refine yW ?_; refine yP (cs := #[.int .i64 0, .int .i64 0]) ?_ 0 _ rfl; refine yW ?_; exact BK299.out⟩
              have n3_ : Aside0 (Below w.heap.size w ((w35.setCell ⟨gb299, 0, none⟩ (.int .i64 ((rd_T45 l0_1 x26_2).f0))).setCell ⟨gb299, 1, none⟩ (.int .i64 ((rd_T45 l0_1 x26_2).f1)))) := ⟨zH HB.out⟩
              (try clear BK294); (try clear BK295); (try clear BK299); (try clear HB)
              generalize ((w35.setCell ⟨gb299, 0, none⟩ (.int .i64 ((rd_T45 l0_1 x26_2).f0))).setCell ⟨gb299, 1, none⟩ (.int .i64 ((rd_T45 l0_1 x26_2).f1))) = w39 at n0_ n1_ n2_ n3_ ⊢
              have BK294 := n0_; have BK295 := n1_; have BK299 := n2_; have HB := n3_; clear n0_ n1_ n2_ n3_; replace BK294 := aM (yD BK294.out); replace BK295 := aM (yD BK295.out); replace BK299 := aM (yD BK299.out); replace HB := aM (zD HB.out)
              have p300 : 0 ≤ (x7_2 : Int) := of_decide_eq_true (by first | (with_reducible assumption) | assumption)
              have q300 : x7_2 < (l0_1.length : Int) := of_decide_eq_true (by first | (with_reducible assumption) | assumption)
              obtain ⟨ad300, e300, hx300_0, hx300_1⟩ := at_T45 HR0_1.out x7_2 p300 q300; have hw300_1 := hx300_1; have hw300_0 := hx300_0
              obtain rfl : ad298 = ad300 := (by injection e300)
              replace hx300_0 := (HB.out.cell (World.block_lt_of_cell? w _ hx300_0)).trans hx300_0; replace hx300_1 := (HB.out.cell (World.block_lt_of_cell? w _ hx300_1)).trans hx300_1; replace p300 := eq_true p300; replace q300 := eq_true q300
              refine start_ (n := 19) (S := fun w' => w'.cell? ⟨gb299, 0, none⟩ = some (.int .i64 ((rd_T45 l0_1 x26_2).f0)) ∧ w'.cell? ⟨gb299, 1, none⟩ = some (.int .i64 ((rd_T45 l0_1 x26_2).f1)) ∧ w'.cell? ⟨gb294, 0, none⟩ = some (.int .i64 a0_0) ∧ w'.cell? ⟨gb294, 1, none⟩ = some (.slice (some ad298) l0_1.length c0_1) ∧ w'.cell? ⟨gb294, 2, none⟩ = some (.slice A0_2 l0_2.length c0_2) ∧ w'.cell? (ad298.add ((x7_2).toNat * 2)) = some (.int .i64 ((rd_T45 l0_1 x7_2).f0)) ∧ w'.cell? ⟨(ad298.add ((x7_2).toNat * 2)).block, (ad298.add ((x7_2).toNat * 2)).off + 1, none⟩ = some (.int .i64 ((rd_T45 l0_1 x7_2).f1))) (ds := []) #[fF,fF,fF,fF,fF,fF,fF,fF,fF,fF,fF,fF,fF,fF,fF,fF,fF,fF,fF] (by kernel_rfl) rfl rfl ⟨yc BK299.out 0, yc BK299.out 1, yc BK294.out 0, yc BK294.out 1, yc BK294.out 2, ((HB.out.cell (World.block_lt_of_cell? w _ hw300_0)).trans hw300_0), ((HB.out.cell (World.block_lt_of_cell? w _ hw300_1)).trans hw300_1)⟩ (fun hHeld => ?_); refine with_tabW impl_TakeBlock.tab7 impl_TakeBlock.bits7 (fun HT_ HW_ => ?_)
              generalize w39.drew = w40 at BK294 BK295 BK299 HB hx300_0 hx300_1 hHeld ⊢
              refine pP 0 31 HT_ ?_
              refine pP 2 33 HT_ ?_
              refine tK 1 32 HT_ HW_ hHeld ?_
              refine pP 3 34 HT_ ?_
              refine pP 4 35 HT_ ?_
              refine pP 5 36 HT_ ?_
              refine pP 6 37 HT_ ?_
              refine pP 7 38 HT_ ?_
              refine pP 8 39 HT_ ?_
              refine pP 10 41 HT_ ?_
              refine pP 12 43 HT_ ?_
              refine tK 9 40 HT_ HW_ hHeld ?_
              refine tK 11 42 HT_ HW_ hHeld ?_
              refine pP 13 44 HT_ ?_
              refine pP 14 45 HT_ ?_
              refine tK 15 46 HT_ HW_ hHeld ?_
              refine pP 16 47 HT_ ?_
              refine pP 17 48 HT_ ?_
              refine pP 18 49 HT_ ?_
              refine done_ (done_of HT_.out (by kernel_rfl)) ?_
              try go_wp2
              go_roundg k2
              case measure => have := HJ2.out; have := HK2.out; omega
              case rel => exact ⟨(x26_2), (wrap64 (x26_2 + 1)), (by first | rfl | (simp; done) | (simp [*]; done)), (by first | rfl | (simp; done) | (simp [*]; done)), H', ⟨by have := HJ2.out; have := HK2.out; omega⟩, ⟨yH BK294.out⟩, ⟨yH BK295.out⟩, ⟨zH HB.out⟩⟩
             ·rw [if_neg c34] at H
              have c34b0 : decide (((rd_T45 l0_1 x26_2).f1) < ((rd_T45 l0_1 x7_2).f1)) = false := decide_eq_false c34; clear c34; have H' := aM H; clear H
              have p298 : 0 ≤ (x26_2 : Int) := of_decide_eq_true (by first | (with_reducible assumption) | assumption)
              have q298 : x26_2 < (l0_1.length : Int) := of_decide_eq_true (by first | (with_reducible assumption) | assumption)
              obtain ⟨ad298, e298, hx298_0, hx298_1⟩ := at_T45 HR0_1.out x26_2 p298 q298
              cases e298
              replace hx298_0 := (HB.out.cell (World.block_lt_of_cell? w _ hx298_0)).trans hx298_0; replace hx298_1 := (HB.out.cell (World.block_lt_of_cell? w _ hx298_1)).trans hx298_1; replace p298 := eq_true p298; replace q298 := eq_true q298
              try go_wp2_with (first | ((with_reducible refine gate_dst (N := 9) rfl ?_); refine bE 9 #[.int .i64 0, .int .i64 0] 45 ?_; intro gb299 hg w41 hbox hb; have BK299 := aM (hbox); have GW299 := gW hg HB.out; have GE299 := GW299; replace HB := aM (zT (zH HB.out) hb); have NB294_299 := nL BK294.out hg; have NB299_294 := nR BK294.out hg; replace BK294 := yK BK294.out hb; have NB295_299 := nL BK295.out hg; have NB299_295 := nR BK295.out hg; replace BK295 := yK BK295.out hb; clear hb hbox hg; have M42 := NB299_294.out; have L42 := NB294_299.out; have M43 := NB299_295.out; have L43 := NB295_299.out; obtain ⟨Z44_0, Z44_1, Y44_0, Y44_1⟩ := y2 BK299.out))
              have n0_ : Aside0 (((w41.setCell ⟨gb299, 0, none⟩ (.int .i64 ((rd_T45 l0_1 x26_2).f0))).setCell ⟨gb299, 1, none⟩ (.int .i64 ((rd_T45 l0_1 x26_2).f1))).heap[gb294]? = some (.cells #[.int .i64 a0_0, .slice (some ad298) l0_1.length c0_1, .slice A0_2 l0_2.length c0_2] 28 (0, 0))) := yG BK294.out
              have n1_ : Aside0 (((w41.setCell ⟨gb299, 0, none⟩ (.int .i64 ((rd_T45 l0_1 x26_2).f0))).setCell ⟨gb299, 1, none⟩ (.int .i64 ((rd_T45 l0_1 x26_2).f1))).heap[gb295]? = some (.cells #[.int .i64 0, .slice none 0 0, .slice none 0 0] 28 (0, 0))) := yG BK295.out
              have n2_ : Aside0 (((w41.setCell ⟨gb299, 0, none⟩ (.int .i64 ((rd_T45 l0_1 x26_2).f0))).setCell ⟨gb299, 1, none⟩ (.int .i64 ((rd_T45 l0_1 x26_2).f1))).heap[gb299]? = some (.cells #[.int .i64 ((rd_T45 l0_1 x26_2).f0), .int .i64 ((rd_T45 l0_1 x26_2).f1)] 45 (0, 0))) := ⟨by refine yW ?_; refine yP (cs := #[.int .i64 ((rd_T45 l0_1 x26_2).f0), .int .i64 0]) ?_ 1 _ rfl; refine yW ?_; refine yP (cs := #[.int .i64 0, .int .i64 0]) ?_ 0 _ rfl; refine yW ?_; exact BK299.out⟩
              have n3_ : Aside0 (Below w.heap.size w ((w41.setCell ⟨gb299, 0, none⟩ (.int .i64 ((rd_T45 l0_1 x26_2).f0))).setCell ⟨gb299, 1, none⟩ (.int .i64 ((rd_T45 l0_1 x26_2).f1)))) := ⟨zH HB.out⟩
              (try clear BK294); (try clear BK295); (try clear BK299); (try clear HB)
              generalize ((w41.setCell ⟨gb299, 0, none⟩ (.int .i64 ((rd_T45 l0_1 x26_2).f0))).setCell ⟨gb299, 1, none⟩ (.int .i64 ((rd_T45 l0_1 x26_2).f1))) = w45 at n0_ n1_ n2_ n3_ ⊢
              have BK294 := n0_; have BK295 := n1_; have BK299 := n2_; have HB := n3_; clear n0_ n1_ n2_ n3_; replace BK294 := aM (yD BK294.out); replace BK295 := aM (yD BK295.out); replace BK299 := aM (yD BK299.out); replace HB := aM (zD HB.out)
              have p300 : 0 ≤ (x7_2 : Int) := of_decide_eq_true (by first | (with_reducible assumption) | assumption)
              have q300 : x7_2 < (l0_1.length : Int) := of_decide_eq_true (by first | (with_reducible assumption) | assumption)
              obtain ⟨ad300, e300, hx300_0, hx300_1⟩ := at_T45 HR0_1.out x7_2 p300 q300; have hw300_1 := hx300_1; have hw300_0 := hx300_0
              obtain rfl : ad298 = ad300 := (by injection e300)
              replace hx300_0 := (HB.out.cell (World.block_lt_of_cell? w _ hx300_0)).trans hx300_0; replace hx300_1 := (HB.out.cell (World.block_lt_of_cell? w _ hx300_1)).trans hx300_1; replace p300 := eq_true p300; replace q300 := eq_true q300
              refine start_ (n := 19) (S := fun w' => w'.cell? ⟨gb299, 0, none⟩ = some (.int .i64 ((rd_T45 l0_1 x26_2).f0)) ∧ w'.cell? ⟨gb299, 1, none⟩ = some (.int .i64 ((rd_T45 l0_1 x26_2).f1)) ∧ w'.cell? ⟨gb294, 0, none⟩ = some (.int .i64 a0_0) ∧ w'.cell? ⟨gb294, 1, none⟩ = some (.slice (some ad298) l0_1.length c0_1) ∧ w'.cell? ⟨gb294, 2, none⟩ = some (.slice A0_2 l0_2.length c0_2) ∧ w'.cell? (ad298.add ((x7_2).toNat * 2)) = some (.int .i64 ((rd_T45 l0_1 x7_2).f0)) ∧ w'.cell? ⟨(ad298.add ((x7_2).toNat * 2)).block, (ad298.add ((x7_2).toNat * 2)).off + 1, none⟩ = some (.int .i64 ((rd_T45 l0_1 x7_2).f1))) (ds := []) #[fF,fF,fF,fF,fF,fF,fF,fF,fF,fF,fF,fF,fF,fF,fF,fF,fF,fF,fF] (by kernel_rfl) rfl rfl ⟨yc BK299.out 0, yc BK299.out 1, yc BK294.out 0, yc BK294.out 1, yc BK294.out 2, ((HB.out.cell (World.block_lt_of_cell? w _ hw300_0)).trans hw300_0), ((HB.out.cell (World.block_lt_of_cell? w _ hw300_1)).trans hw300_1)⟩ (fun hHeld => ?_); refine with_tabW impl_TakeBlock.tab7 impl_TakeBlock.bits7 (fun HT_ HW_ => ?_)
              generalize w45.drew = w46 at BK294 BK295 BK299 HB hx300_0 hx300_1 hHeld ⊢
              refine pP 0 31 HT_ ?_
              refine pP 2 33 HT_ ?_
              refine tK 1 32 HT_ HW_ hHeld ?_
              refine pP 3 34 HT_ ?_
              refine pP 4 35 HT_ ?_
              refine pP 5 36 HT_ ?_
              refine pP 6 37 HT_ ?_
              refine pP 7 38 HT_ ?_
              refine pP 8 39 HT_ ?_
              refine pP 10 41 HT_ ?_
              refine pP 12 43 HT_ ?_
              refine tK 9 40 HT_ HW_ hHeld ?_
              refine tK 11 42 HT_ HW_ hHeld ?_
              refine pP 13 44 HT_ ?_
              refine pP 14 45 HT_ ?_
              refine tK 15 46 HT_ HW_ hHeld ?_
              refine pP 16 47 HT_ ?_
              refine pP 17 48 HT_ ?_
              refine pP 18 49 HT_ ?_
              refine done_ (done_of HT_.out (by kernel_rfl)) ?_
              try go_wp2
              go_roundg k2
              case measure => have := HJ2.out; have := HK2.out; omega
              case rel => exact ⟨(x7_2), (wrap64 (x26_2 + 1)), (by first | rfl | (simp; done) | (simp [*]; done)), (by first | rfl | (simp; done) | (simp [*]; done)), H', ⟨by have := HJ2.out; have := HK2.out; omega⟩, ⟨yH BK294.out⟩, ⟨yH BK295.out⟩, ⟨zH HB.out⟩⟩
            ·rw [if_neg c33] at H
             exact absurd H (by simp)
           ·rw [if_neg c32] at H
            exact absurd H (by simp)
         ·rw [if_neg c24] at H
          have c24b0 : decide (a1 ≤ ((rd_T45 l0_1 x26_2).f1)) = false := decide_eq_false c24; clear c24; have H' := aM H; clear H
          have p298 : 0 ≤ (x26_2 : Int) := of_decide_eq_true (by first | (with_reducible assumption) | assumption)
          have q298 : x26_2 < (l0_1.length : Int) := of_decide_eq_true (by first | (with_reducible assumption) | assumption)
          obtain ⟨ad298, e298, hx298_0, hx298_1⟩ := at_T45 HR0_1.out x26_2 p298 q298
          cases e298
          replace hx298_0 := (HB.out.cell (World.block_lt_of_cell? w _ hx298_0)).trans hx298_0; replace hx298_1 := (HB.out.cell (World.block_lt_of_cell? w _ hx298_1)).trans hx298_1; replace p298 := eq_true p298; replace q298 := eq_true q298
          try go_wp2_with (first | ((with_reducible refine gate_dst (N := 9) rfl ?_); refine bE 9 #[.int .i64 0, .int .i64 0] 45 ?_; intro gb299 hg w47 hbox hb; have BK299 := aM (hbox); have GW299 := gW hg HB.out; have GE299 := GW299; replace HB := aM (zT (zH HB.out) hb); have NB294_299 := nL BK294.out hg; have NB299_294 := nR BK294.out hg; replace BK294 := yK BK294.out hb; have NB295_299 := nL BK295.out hg; have NB299_295 := nR BK295.out hg; replace BK295 := yK BK295.out hb; clear hb hbox hg; have M48 := NB299_294.out; have L48 := NB294_299.out; have M49 := NB299_295.out; have L49 := NB295_299.out; obtain ⟨Z50_0, Z50_1, Y50_0, Y50_1⟩ := y2 BK299.out))
          have n0_ : Aside0 (((w47.setCell ⟨gb299, 0, none⟩ (.int .i64 ((rd_T45 l0_1 x26_2).f0))).setCell ⟨gb299, 1, none⟩ (.int .i64 ((rd_T45 l0_1 x26_2).f1))).heap[gb294]? = some (.cells #[.int .i64 a0_0, .slice (some ad298) l0_1.length c0_1, .slice A0_2 l0_2.length c0_2] 28 (0, 0))) := yG BK294.out
          have n1_ : Aside0 (((w47.setCell ⟨gb299, 0, none⟩ (.int .i64 ((rd_T45 l0_1 x26_2).f0))).setCell ⟨gb299, 1, none⟩ (.int .i64 ((rd_T45 l0_1 x26_2).f1))).heap[gb295]? = some (.cells #[.int .i64 0, .slice none 0 0, .slice none 0 0] 28 (0, 0))) := yG BK295.out
          have n2_ : Aside0 (((w47.setCell ⟨gb299, 0, none⟩ (.int .i64 ((rd_T45 l0_1 x26_2).f0))).setCell ⟨gb299, 1, none⟩ (.int .i64 ((rd_T45 l0_1 x26_2).f1))).heap[gb299]? = some (.cells #[.int .i64 ((rd_T45 l0_1 x26_2).f0), .int .i64 ((rd_T45 l0_1 x26_2).f1)] 45 (0, 0))) := ⟨by refine yW ?_; refine yP (cs := #[.int .i64 ((rd_T45 l0_1 x26_2).f0), .int .i64 0]) ?_ 1 _ rfl; refine yW ?_; refine yP (cs := #[.int .i64 0, .int .i64 0]) ?_ 0 _ rfl; refine yW ?_; exact BK299.out⟩
          have n3_ : Aside0 (Below w.heap.size w ((w47.setCell ⟨gb299, 0, none⟩ (.int .i64 ((rd_T45 l0_1 x26_2).f0))).setCell ⟨gb299, 1, none⟩ (.int .i64 ((rd_T45 l0_1 x26_2).f1)))) := ⟨zH HB.out⟩
          (try clear BK294); (try clear BK295); (try clear BK299); (try clear HB)
          generalize ((w47.setCell ⟨gb299, 0, none⟩ (.int .i64 ((rd_T45 l0_1 x26_2).f0))).setCell ⟨gb299, 1, none⟩ (.int .i64 ((rd_T45 l0_1 x26_2).f1))) = w51 at n0_ n1_ n2_ n3_ ⊢
          have BK294 := n0_; have BK295 := n1_; have BK299 := n2_; have HB := n3_; clear n0_ n1_ n2_ n3_; replace BK294 := aM (yD BK294.out); replace BK295 := aM (yD BK295.out); replace BK299 := aM (yD BK299.out); replace HB := aM (zD HB.out)
          refine start_ (n := 19) (S := fun w' => w'.cell? ⟨gb299, 0, none⟩ = some (.int .i64 ((rd_T45 l0_1 x26_2).f0)) ∧ w'.cell? ⟨gb299, 1, none⟩ = some (.int .i64 ((rd_T45 l0_1 x26_2).f1))) (ds := []) #[fF,fF,fF,fF,fF,fF,fF,fF,fF,fF,fF,fF,fF,fF,fF,fF,fF,fF,fF] (by kernel_rfl) rfl rfl ⟨yc BK299.out 0, yc BK299.out 1⟩ (fun hHeld => ?_); refine with_tabW impl_TakeBlock.tab7 impl_TakeBlock.bits7 (fun HT_ HW_ => ?_)
          generalize w51.drew = w52 at BK294 BK295 BK299 HB hHeld ⊢
          refine pP 0 31 HT_ ?_
          refine pP 2 33 HT_ ?_
          refine tK 1 32 HT_ HW_ hHeld ?_
          refine pP 3 34 HT_ ?_
          refine pP 4 35 HT_ ?_
          refine pU 5 36 HT_ ?_
          refine pU 6 37 HT_ ?_
          refine pU 7 38 HT_ ?_
          refine pU 8 39 HT_ ?_
          refine pU 9 40 HT_ ?_
          refine pU 10 41 HT_ ?_
          refine pU 11 42 HT_ ?_
          refine pU 12 43 HT_ ?_
          refine pU 13 44 HT_ ?_
          refine pU 14 45 HT_ ?_
          refine pU 15 46 HT_ ?_
          refine pU 16 47 HT_ ?_
          refine pU 17 48 HT_ ?_
          refine pP 18 49 HT_ ?_
          refine done_ (done_of HT_.out (by kernel_rfl)) ?_
          try go_wp2
          go_roundg k2
          case measure => have := HJ2.out; have := HK2.out; omega
          case rel => exact ⟨(x7_2), (wrap64 (x26_2 + 1)), (by first | rfl | (simp; done) | (simp [*]; done)), (by first | rfl | (simp; done) | (simp [*]; done)), H', ⟨by have := HJ2.out; have := HK2.out; omega⟩, ⟨yH BK294.out⟩, ⟨yH BK295.out⟩, ⟨zH HB.out⟩⟩
        ·rw [if_neg c23] at H
         exact absurd H (by simp)
       ·rw [if_neg c22] at H
        exact absurd H (by simp)
      ·rw [if_neg c21] at H
       have c21b0 : decide (x26_2 < (l0_1.length : Int)) = false := decide_eq_false c21; clear c21
       by_cases c53 : x7_2 < 0
       ·rw [if_pos c53] at H
        have c53b0 : decide (x7_2 < 0) = true := decide_eq_true c53; clear c53
        simp only [Option.some.injEq, Prod.mk.injEq] at H
        obtain ⟨rfl, rfl, rfl, rfl, rfl⟩ := H; have M54 := NB295_294.out; have L54 := NB294_295.out; have Z55_0 : wr.cell? ⟨gb295, 0, none⟩ = some (.int .i64 0) := yc BK295.out 0; have Z55_1 : wr.cell? ⟨gb295, 1, none⟩ = some (.slice none 0 0) := yc BK295.out 1; have Z55_2 : wr.cell? ⟨gb295, 2, none⟩ = some (.slice none 0 0) := yc BK295.out 2; have Y55_0 := yZ BK295.out 0; have Y55_1 := yZ BK295.out 1; have Y55_2 := yZ BK295.out 2
        go_wp2
        refine bodyPost_ret (results_ctt rfl _ _ gb295 28 #[.int .i64 0, .slice none 0 0, .slice none 0 0] (0, 0) _ rfl (by refine yW ?_; refine yP (cs := #[.int .i64 0, .slice none 0 0, .slice none 0 0]) ?_ 2 _ rfl; refine yW ?_; refine yP (cs := #[.int .i64 0, .slice none 0 0, .slice none 0 0]) ?_ 1 _ rfl; refine yW ?_; refine yP (cs := #[.int .i64 0, .slice none 0 0, .slice none 0 0]) ?_ 0 _ rfl; refine yW ?_; exact BK295.out) Try.underlying28 rfl (by kernel_rfl)) rfl ?_
        exact ⟨_, _, eW, by first | exact Kd.R_nil _ _ _ _ _ | exact Kd.N_nil _ _ _ _ _ | exact Kd.V_nil _ _ _ _ _ | exact Kd.Q_nil _ _ _ _ _ | exact Kd.S_nil _ _ _ _ _, by first | exact Kd.R_nil _ _ _ _ _ | exact Kd.N_nil _ _ _ _ _ | exact Kd.V_nil _ _ _ _ _ | exact Kd.Q_nil _ _ _ _ _ | exact Kd.S_nil _ _ _ _ _, zH HB.out⟩
       ·rw [if_neg c53] at H
        have c53b0 : decide (x7_2 < 0) = false := decide_eq_false c53; clear c53
        by_cases c56 : 0 ≤ x7_2
        ·rw [if_pos c56] at H
         have c56b0 : decide (0 ≤ x7_2) = true := decide_eq_true c56; clear c56
         by_cases c57 : x7_2 < (l0_1.length : Int)
         ·rw [if_pos c57] at H
          have c57b0 : decide (x7_2 < (l0_1.length : Int)) = true := decide_eq_true c57; clear c57; replace H := Option.bind_eq_some_iff.mp H; obtain ⟨t303, A580, H⟩ := H; replace H : (impl_TakeBlock.l1 k2 a1 a0_0 l0_1 l0_2 ((rd_T45 l0_1 x7_2).f0) ((rd_T45 l0_1 x7_2).f1) a0_0 t303) = some (r1, r2, r3, r4, r5) := H; have A58 := aM A580; clear A580; have H' := aM H; clear H; have M59 := NB294_295.out; have L59 := NB295_294.out; have Z60_0 : wr.cell? ⟨gb294, 0, none⟩ = some (.int .i64 a0_0) := yc BK294.out 0; have Z60_1 : wr.cell? ⟨gb294, 1, none⟩ = some (.slice A0_1 l0_1.length c0_1) := yc BK294.out 1; have Z60_2 : wr.cell? ⟨gb294, 2, none⟩ = some (.slice A0_2 l0_2.length c0_2) := yc BK294.out 2; have Y60_0 := yZ BK294.out 0; have Y60_1 := yZ BK294.out 1; have Y60_2 := yZ BK294.out 2
          have p301 : 0 ≤ (x7_2 : Int) := of_decide_eq_true (by first | (with_reducible assumption) | assumption)
          have q301 : x7_2 < (l0_1.length : Int) := of_decide_eq_true (by first | (with_reducible assumption) | assumption)
          obtain ⟨ad301, e301, hx301_0, hx301_1⟩ := at_T45 HR0_1.out x7_2 p301 q301
          cases e301
          replace hx301_0 := (HB.out.cell (World.block_lt_of_cell? w _ hx301_0)).trans hx301_0; replace hx301_1 := (HB.out.cell (World.block_lt_of_cell? w _ hx301_1)).trans hx301_1; replace p301 := eq_true p301; replace q301 := eq_true q301
          try go_wp2_with (first | ((with_reducible refine gate_dst (N := 10) rfl ?_); refine bE 10 #[.int .i64 0, .int .i64 0] 45 ?_; intro gb302 hg w61 hbox hb; have BK302 := aM (hbox); have GW302 := gW hg HB.out; have GE302 := GW302; replace HB := aM (zT (zH HB.out) hb); have NB294_302 := nL BK294.out hg; have NB302_294 := nR BK294.out hg; replace BK294 := yK BK294.out hb; have NB295_302 := nL BK295.out hg; have NB302_295 := nR BK295.out hg; replace BK295 := yK BK295.out hb; clear hb hbox hg; have M62 := NB302_294.out; have L62 := NB294_302.out; have M63 := NB302_295.out; have L63 := NB295_302.out; obtain ⟨Z64_0, Z64_1, Y64_0, Y64_1⟩ := y2 BK302.out))
          have n0_ : Aside0 (((w61.setCell ⟨gb302, 0, none⟩ (.int .i64 ((rd_T45 l0_1 x7_2).f0))).setCell ⟨gb302, 1, none⟩ (.int .i64 ((rd_T45 l0_1 x7_2).f1))).heap[gb294]? = some (.cells #[.int .i64 a0_0, .slice (some ad301) l0_1.length c0_1, .slice A0_2 l0_2.length c0_2] 28 (0, 0))) := yG BK294.out
          have n1_ : Aside0 (((w61.setCell ⟨gb302, 0, none⟩ (.int .i64 ((rd_T45 l0_1 x7_2).f0))).setCell ⟨gb302, 1, none⟩ (.int .i64 ((rd_T45 l0_1 x7_2).f1))).heap[gb295]? = some (.cells #[.int .i64 0, .slice none 0 0, .slice none 0 0] 28 (0, 0))) := yG BK295.out
          have n2_ : Aside0 (((w61.setCell ⟨gb302, 0, none⟩ (.int .i64 ((rd_T45 l0_1 x7_2).f0))).setCell ⟨gb302, 1, none⟩ (.int .i64 ((rd_T45 l0_1 x7_2).f1))).heap[gb302]? = some (.cells #[.int .i64 ((rd_T45 l0_1 x7_2).f0), .int .i64 ((rd_T45 l0_1 x7_2).f1)] 45 (0, 0))) := ⟨by refine yW ?_; refine yP (cs := #[.int .i64 ((rd_T45 l0_1 x7_2).f0), .int .i64 0]) ?_ 1 _ rfl; refine yW ?_; refine yP (cs := #[.int .i64 0, .int .i64 0]) ?_ 0 _ rfl; refine yW ?_; exact BK302.out⟩
          have n3_ : Aside0 (Below w.heap.size w ((w61.setCell ⟨gb302, 0, none⟩ (.int .i64 ((rd_T45 l0_1 x7_2).f0))).setCell ⟨gb302, 1, none⟩ (.int .i64 ((rd_T45 l0_1 x7_2).f1)))) := ⟨zH HB.out⟩
          (try clear BK294); (try clear BK295); (try clear BK302); (try clear HB)
          generalize ((w61.setCell ⟨gb302, 0, none⟩ (.int .i64 ((rd_T45 l0_1 x7_2).f0))).setCell ⟨gb302, 1, none⟩ (.int .i64 ((rd_T45 l0_1 x7_2).f1))) = w65 at n0_ n1_ n2_ n3_ ⊢
          have BK294 := n0_; have BK295 := n1_; have BK302 := n2_; have HB := n3_; clear n0_ n1_ n2_ n3_; replace BK294 := aM (yD BK294.out); replace BK295 := aM (yD BK295.out); replace BK302 := aM (yD BK302.out); replace HB := aM (zD HB.out)
          refine start_ (n := 9) (S := fun w' => w'.cell? ⟨gb294, 0, none⟩ = some (.int .i64 a0_0) ∧ w'.cell? ⟨gb294, 1, none⟩ = some (.slice (some ad301) l0_1.length c0_1) ∧ w'.cell? ⟨gb294, 2, none⟩ = some (.slice A0_2 l0_2.length c0_2) ∧ w'.cell? ⟨gb302, 0, none⟩ = some (.int .i64 ((rd_T45 l0_1 x7_2).f0)) ∧ w'.cell? ⟨gb302, 1, none⟩ = some (.int .i64 ((rd_T45 l0_1 x7_2).f1))) (ds := []) #[fF,fF,fF,fF,fF,fF,fF,fF,fF] (by kernel_rfl) rfl rfl ⟨yc BK294.out 0, yc BK294.out 1, yc BK294.out 2, yc BK302.out 0, yc BK302.out 1⟩ (fun hHeld => ?_); refine with_tabW impl_TakeBlock.tab13 impl_TakeBlock.bits13 (fun HT_ HW_ => ?_)
          generalize w65.drew = w66 at BK294 BK295 BK302 HB hHeld ⊢
          refine pP 0 60 HT_ ?_
          refine pP 2 62 HT_ ?_
          refine tK 1 61 HT_ HW_ hHeld ?_
          refine tK 3 63 HT_ HW_ hHeld ?_
          refine tK 4 64 HT_ HW_ hHeld ?_
          refine join_ (σ := Value × Nat) 1 #[tT,tT,tT,tT,tT,tT,tT,tT,fF] (fun s_ => [(65, s_.1), (11, .pointer (some ⟨s_.2, 0, none⟩)), (66, .agg #[.int .i64 a0_0, s_.1, .slice none 0 0])]) (fun s_ w' => (w'.cell? ⟨gb294, 0, none⟩ = some (.int .i64 a0_0) ∧ w'.cell? ⟨gb294, 1, none⟩ = some (.slice (some ad301) l0_1.length c0_1) ∧ w'.cell? ⟨gb294, 2, none⟩ = some (.slice A0_2 l0_2.length c0_2) ∧ w'.cell? ⟨gb302, 0, none⟩ = some (.int .i64 ((rd_T45 l0_1 x7_2).f0)) ∧ w'.cell? ⟨gb302, 1, none⟩ = some (.int .i64 ((rd_T45 l0_1 x7_2).f1))) ∧ (Kd.R k45 45 w' w.heap.size (fun k_ => k_ ≠ gb302) s_.1 t303) ∧ (w'.heap[gb294]? = some (.cells #[.int .i64 a0_0, .slice (some ad301) l0_1.length c0_1, .slice A0_2 l0_2.length c0_2] 28 (0, 0))) ∧ (w'.heap[gb295]? = some (.cells #[.int .i64 0, .slice none 0 0, .slice none 0 0] 28 (0, 0))) ∧ (w'.heap[gb302]? = some (.cells #[.int .i64 ((rd_T45 l0_1 x7_2).f0), .int .i64 ((rd_T45 l0_1 x7_2).f1)] 45 (0, 0))) ∧ (w'.heap[s_.2]? = some (.cells #[.int .i64 0, .slice none 0 0, .slice none 0 0] 28 (0, 0))) ∧ (w.heap.size ≤ s_.2) ∧ (w.heap.size ≤ s_.2) ∧ (gb294 ≠ s_.2) ∧ (s_.2 ≠ gb294) ∧ (gb295 ≠ s_.2) ∧ (s_.2 ≠ gb295) ∧ (gb302 ≠ s_.2) ∧ (s_.2 ≠ gb302) ∧ (Below w.heap.size w w')) ?_ ?_
          rotate_left
          ·intro hCont
           refine two_ (i := 5) (j := 7) (Ni := some 65) (Nj := some 11) #[tT,tT,tT,tT,tT,tT,fF,fF,fF] #[tT,tT,tT,tT,tT,fF,fF,tT,fF] rfl rfl rfl rfl (two_of HT_.out (by kernel_rfl)) (by decide) (by decide) (fun K hK => ?_) (fun K hK => ?_)
           ·skip
            refine gS Try.func36 (by kernel_rfl) rfl #[.slice (some ad301) l0_1.length c0_1, .agg #[.int .i64 ((rd_T45 l0_1 x7_2).f0), .int .i64 ((rd_T45 l0_1 x7_2).f1)]] (by rfl) rfl rfl ?_
            with_reducible refine (impl_lacking.calls _ _ l0_1 ((rd_T45 l0_1 x7_2).f0) ((rd_T45 l0_1 x7_2).f1) t303 _ ?side1 ?side2 A58.out).mono ?_
            (case side1 => exact cK HR0_1.out HB.out)
            (case side2 => exact HC0_1.out)
            rintro e w67 ⟨v304, rfl, ho0, hb⟩
            refine ⟨_, rfl, ?_⟩
            have HO305 := aM (xL (Kd.R_newB ho0 (g := gb302) (o := .cells #[.int .i64 ((rd_T45 l0_1 x7_2).f0), .int .i64 ((rd_T45 l0_1 x7_2).f1)] 45 (0, 0)) (yH BK302.out)) (zZ (zH HB.out))); replace BK294 := yK BK294.out hb; replace BK295 := yK BK295.out hb; replace BK302 := yK BK302.out hb; replace HB := aM (zT (zH HB.out) hb)
            (try clear hb); (try clear ho0)
            obtain ⟨Ao68, co68, eo68⟩ := Kd.R_slice HO305.out
            (first | subst eo68 | obtain ⟨rfl, rfl⟩ := eI eo68)
            refine hK.out _ _ ⟨yc BK294.out 0, yc BK294.out 1, yc BK294.out 2, yc BK302.out 0, yc BK302.out 1⟩ (fun hHeld => ?_)
            clear hK K; refine nN 65 ?_
            refine pP 6 66 HT_ ?_
            refine oN 7 (some 11) HT_ (fun K hK => ?_)
            refine box_step ?hg (N := 11) ?hd (cs := #[.int .i64 0, .slice none 0 0, .slice none 0 0]) (t := 28) ?hr ?_; (case hd => rfl); (case hg => rfl); (case hr => first | (go_simp; done) | (go_simp; rfl))
            intro gb306 hg w69 hbox hb
            replace HO305 := xK HO305.out hb; have BK306 := aM (hbox)
            have GW306 := aM ((by rw [hg]; exact (zZ (zH HB.out)) : w.heap.size ≤ gb306))
            have GE306 := gW hg HB.out
            replace HB := aM (zT (zH HB.out) hb); have NB294_306 := nL BK294.out hg; have NB306_294 := nR BK294.out hg; replace BK294 := yK BK294.out hb; have NB295_306 := nL BK295.out hg; have NB306_295 := nR BK295.out hg; replace BK295 := yK BK295.out hb; have NB302_306 := nL BK302.out hg; have NB306_302 := nR BK302.out hg; replace BK302 := yK BK302.out hb; clear hb hbox hg
            refine hK.out _ _ ⟨yc BK294.out 0, yc BK294.out 1, yc BK294.out 2, yc BK302.out 0, yc BK302.out 1⟩ (fun hHeld => ?_)
            clear hK K; refine nN 11 ?_
            exact norm_ (by simp only [putAll, Act.put, qA, qB, qC]) (hCont (.slice Ao68 t303.length co68, gb306) _ ⟨hHeld, (xH (xM HO305.out (fun _ hk => hk.2))), (yH BK294.out), (yH BK295.out), (yH BK302.out), (yH BK306.out), GW306.out, GE306.out, NB294_306.out, NB306_294.out, NB295_306.out, NB306_295.out, NB302_306.out, NB306_302.out, (zH HB.out)⟩)
           ·skip
            refine box_step ?hg (N := 11) ?hd (cs := #[.int .i64 0, .slice none 0 0, .slice none 0 0]) (t := 28) ?hr ?_; (case hd => rfl); (case hg => rfl); (case hr => first | (go_simp; done) | (go_simp; rfl))
            intro gb306 hg w67 hbox hb
            have BK306 := aM (hbox)
            have GW306 := aM ((by rw [hg]; exact (zZ (zH HB.out)) : w.heap.size ≤ gb306))
            have GE306 := gW hg HB.out
            replace HB := aM (zT (zH HB.out) hb); have NB294_306 := nL BK294.out hg; have NB306_294 := nR BK294.out hg; replace BK294 := yK BK294.out hb; have NB295_306 := nL BK295.out hg; have NB306_295 := nR BK295.out hg; replace BK295 := yK BK295.out hb; have NB302_306 := nL BK302.out hg; have NB306_302 := nR BK302.out hg; replace BK302 := yK BK302.out hb; clear hb hbox hg
            refine hK.out _ _ ⟨yc BK294.out 0, yc BK294.out 1, yc BK294.out 2, yc BK302.out 0, yc BK302.out 1⟩ (fun hHeld => ?_)
            clear hK K; refine nN 11 ?_
            refine oN 5 (some 65) HT_ (fun K hK => ?_)
            refine gS Try.func36 (by kernel_rfl) rfl #[.slice (some ad301) l0_1.length c0_1, .agg #[.int .i64 ((rd_T45 l0_1 x7_2).f0), .int .i64 ((rd_T45 l0_1 x7_2).f1)]] (by rfl) rfl rfl ?_
            with_reducible refine (impl_lacking.calls _ _ l0_1 ((rd_T45 l0_1 x7_2).f0) ((rd_T45 l0_1 x7_2).f1) t303 _ ?side1 ?side2 A58.out).mono ?_
            (case side1 => exact cK HR0_1.out HB.out)
            (case side2 => exact HC0_1.out)
            rintro e w68 ⟨v304, rfl, ho0, hb⟩
            refine ⟨_, rfl, ?_⟩
            have HO305 := aM (xL (Kd.R_newB ho0 (g := gb302) (o := .cells #[.int .i64 ((rd_T45 l0_1 x7_2).f0), .int .i64 ((rd_T45 l0_1 x7_2).f1)] 45 (0, 0)) (yH BK302.out)) (zZ (zH HB.out))); replace BK294 := yK BK294.out hb; replace BK295 := yK BK295.out hb; replace BK302 := yK BK302.out hb; replace BK306 := yK BK306.out hb; replace HB := aM (zT (zH HB.out) hb)
            (try clear hb); (try clear ho0)
            obtain ⟨Ao69, co69, eo69⟩ := Kd.R_slice HO305.out
            (first | subst eo69 | obtain ⟨rfl, rfl⟩ := eI eo69)
            refine hK.out _ _ ⟨yc BK294.out 0, yc BK294.out 1, yc BK294.out 2, yc BK302.out 0, yc BK302.out 1⟩ (fun hHeld => ?_)
            clear hK K; refine nN 65 ?_
            refine pP 6 66 HT_ ?_
            exact norm_ (by simp only [putAll, Act.put, qA, qB, qC]) (hCont (.slice Ao69 t303.length co69, gb306) _ ⟨hHeld, (xH (xM HO305.out (fun _ hk => hk.2))), (yH BK294.out), (yH BK295.out), (yH BK302.out), (yH BK306.out), GW306.out, GE306.out, NB294_306.out, NB306_294.out, NB295_306.out, NB306_295.out, NB302_306.out, NB306_302.out, (zH HB.out)⟩)
          rintro ⟨v304, gb306⟩ w70 ⟨hS_, h0_, h1_, h2_, h3_, h4_, h5_, h6_, h7_, h8_, h9_, h10_, h11_, h12_, h13_⟩
          (try dsimp only at h0_ h1_ h2_ h3_ h4_ h5_ h6_ h7_ h8_ h9_ h10_ h11_ h12_ h13_)
          have n0_ := aM h0_; have n1_ := aM h1_; have n2_ := aM h2_; have n3_ := aM h3_; have n4_ := aM h4_; have n5_ := aM h5_; have n6_ := aM h6_; have n7_ := aM h7_; have n8_ := aM h8_; have n9_ := aM h9_; have n10_ := aM h10_; have n11_ := aM h11_; have n12_ := aM h12_; have n13_ := aM h13_; clear BK294 BK295 BK302 HB h0_ h1_ h2_ h3_ h4_ h5_ h6_ h7_ h8_ h9_ h10_ h11_ h12_ h13_; have HO305 := n0_; have BK294 := n1_; have BK295 := n2_; have BK302 := n3_; have BK306 := n4_; have GW306 := n5_; have GE306 := n6_; have NB294_306 := n7_; have NB306_294 := n8_; have NB295_306 := n9_; have NB306_295 := n10_; have NB302_306 := n11_; have NB306_302 := n12_; have HB := n13_; clear n0_ n1_ n2_ n3_ n4_ n5_ n6_ n7_ n8_ n9_ n10_ n11_ n12_ n13_; have hHeld : w70.cell? ⟨gb294, 0, none⟩ = some (.int .i64 a0_0) ∧ w70.cell? ⟨gb294, 1, none⟩ = some (.slice (some ad301) l0_1.length c0_1) ∧ w70.cell? ⟨gb294, 2, none⟩ = some (.slice A0_2 l0_2.length c0_2) ∧ w70.cell? ⟨gb302, 0, none⟩ = some (.int .i64 ((rd_T45 l0_1 x7_2).f0)) ∧ w70.cell? ⟨gb302, 1, none⟩ = some (.int .i64 ((rd_T45 l0_1 x7_2).f1)) := hS_; obtain ⟨Ao71, co71, eo71⟩ := Kd.R_slice HO305.out
          (first | subst eo71 | obtain ⟨rfl, rfl⟩ := eI eo71)
          refine norm_ (a' := ?_) ?_ ?_; rotate_left
          ·simp only [putAll, Act.put, qA, qB, qC]
           rfl
          refine oN 8 none HT_ (fun K hK => ?_)
          have hs72 : w70.cell? ⟨gb306, 0, none⟩ = some (.int .i64 0) := yc BK306.out 0; have hfs72 := yZ BK306.out 0; have hns72_0 := NB294_306.out; have hns72_1 := NB295_306.out; have hns72_2 := NB302_306.out; have hms72_0 := NB306_294.out; have hms72_1 := NB306_295.out; have hms72_2 := NB306_302.out; have hs73 : w70.cell? ⟨gb306, 1, none⟩ = some (.slice none 0 0) := yc BK306.out 1; have hfs73 := yZ BK306.out 1; have hns73_0 := NB294_306.out; have hns73_1 := NB295_306.out; have hns73_2 := NB302_306.out; have hms73_0 := NB306_294.out; have hms73_1 := NB306_295.out; have hms73_2 := NB306_302.out; have hs74 : w70.cell? ⟨gb306, 2, none⟩ = some (.slice none 0 0) := yc BK306.out 2; have hfs74 := yZ BK306.out 2; have hns74_0 := NB294_306.out; have hns74_1 := NB295_306.out; have hns74_2 := NB302_306.out; have hms74_0 := NB306_294.out; have hms74_1 := NB306_295.out; have hms74_2 := NB306_302.out
          refine skip_ (w1 := ?_) (by rfl) rfl ?_ ?_
          rotate_left
          ·go_simp
           rfl
          refine hK.out _ _ ⟨((cell_far (p := ⟨gb306, _, none⟩) NB294_306.out _).trans (((cell_far (p := ⟨gb306, _, none⟩) NB294_306.out _).trans (((cell_far (p := ⟨gb306, _, none⟩) NB294_306.out _).trans (hHeld.1)))))), ((cell_far (p := ⟨gb306, _, none⟩) NB294_306.out _).trans (((cell_far (p := ⟨gb306, _, none⟩) NB294_306.out _).trans (((cell_far (p := ⟨gb306, _, none⟩) NB294_306.out _).trans (hHeld.2.1)))))), ((cell_far (p := ⟨gb306, _, none⟩) NB294_306.out _).trans (((cell_far (p := ⟨gb306, _, none⟩) NB294_306.out _).trans (((cell_far (p := ⟨gb306, _, none⟩) NB294_306.out _).trans (hHeld.2.2.1)))))), ((cell_far (p := ⟨gb306, _, none⟩) NB302_306.out _).trans (((cell_far (p := ⟨gb306, _, none⟩) NB302_306.out _).trans (((cell_far (p := ⟨gb306, _, none⟩) NB302_306.out _).trans (hHeld.2.2.2.1)))))), ((cell_far (p := ⟨gb306, _, none⟩) NB302_306.out _).trans (((cell_far (p := ⟨gb306, _, none⟩) NB302_306.out _).trans (((cell_far (p := ⟨gb306, _, none⟩) NB302_306.out _).trans (hHeld.2.2.2.2))))))⟩ (fun hHeld => ?_)
          clear hK K
          refine done_ (done_of HT_.out (by kernel_rfl)) ?_
          try go_wp2
          go_loopg [] k2 (fun kq w' => ∃ (x303001_3 : Int) (x307001_3 : List (S45)) (u307001 : Value), Aside0 (impl_TakeBlock.l1 kq a1 a0_0 l0_1 l0_2 ((rd_T45 l0_1 x7_2).f0) x303001_3 a0_0 x307001_3 = some (r1, r2, r3, r4, r5)) ∧ Aside0 (kq ≤ k2) ∧ Aside0 (Kd.R k45 45 w' w.heap.size (fun k_ => k_ ≠ gb302) u307001 x307001_3) ∧ Aside0 (w'.heap[gb294]? = some (.cells #[.int .i64 a0_0, (.slice (some ad301) l0_1.length c0_1), (.slice A0_2 l0_2.length c0_2)] 28 (0, 0))) ∧ Aside0 (w'.heap[gb295]? = some (.cells #[.int .i64 0, (.slice none 0 0), (.slice none 0 0)] 28 (0, 0))) ∧ Aside0 (w'.heap[gb302]? = some (.cells #[.int .i64 ((rd_T45 l0_1 x7_2).f0), .int .i64 x303001_3] 45 (0, 0))) ∧ Aside0 (w'.heap[gb306]? = some (.cells #[.int .i64 a0_0, u307001, (.slice none 0 0)] 28 (0, 0))) ∧ Aside0 (Below w.heap.size w w'))
          case atStart => exact ⟨((rd_T45 l0_1 x7_2).f1), (t303), (.slice Ao71 t303.length co71), H', ⟨Nat.le_refl _⟩, ⟨xH (xM (xF (p := ⟨gb306, 2, none⟩) (xF (p := ⟨gb306, 1, none⟩) (xF (p := ⟨gb306, 0, none⟩) (xT HO305.out BK306.out (by decide)) (fun _ hk => hk.2) (.int .i64 a0_0)) (fun _ hk => hk.2) (.slice Ao71 t303.length co71)) (fun _ hk => hk.2) (.slice none 0 0)) (fun _ hk => hk.1))⟩, yG BK294.out, yG BK295.out, yG BK302.out, ⟨by refine yW ?_; refine yP (cs := #[.int .i64 a0_0, .slice Ao71 t303.length co71, .slice none 0 0]) ?_ 2 _ rfl; refine yW ?_; refine yP (cs := #[.int .i64 a0_0, .slice none 0 0, .slice none 0 0]) ?_ 1 _ rfl; refine yW ?_; refine yP (cs := #[.int .i64 0, .slice none 0 0, .slice none 0 0]) ?_ 0 _ rfl; refine yW ?_; exact BK306.out⟩, ⟨zH HB.out⟩⟩
          case round =>
           clear H'
           (try clear c21); (try clear c21b0); (try clear c22); (try clear c23); (try clear c24); (try clear c24b0); (try clear c32); (try clear c33); (try clear c53); (try clear c53b0); (try clear c56); (try clear c56b0); (try clear c57); (try clear c57b0); (try clear Z50_0 Z50_1 Y50_0 Y50_1); (try clear Z55_0 Z55_1 Z55_2 Y55_0 Y55_1 Y55_2); (try clear Z60_0 Z60_1 Z60_2 Y60_0 Y60_1 Y60_2); (try clear Z64_0 Z64_1 Y64_0 Y64_1); (try clear hx298_0); (try clear hx298_1); (try clear hx301_0); (try clear hx301_1); (try clear p298); (try clear p301); (try clear q298); (try clear q301)
           obtain ⟨x303001_3, x307001_3, u307001, HA, HK3, p0', BK294, BK295, BK302, BK306, HB⟩ := hrel
           cases gk with
           | zero => exact absurd HA.out (fun h_ => by change none = some _ at h_; cases h_)
           | succ k3 =>
            have H := HA.out; clear HA
            simp only [impl_TakeBlock.l1] at H
            by_cases c75 : x303001_3 > a1
            ·rw [if_pos c75] at H
             have c75b0 : decide (a1 < x303001_3) = true := decide_eq_true c75; clear c75; replace H := Option.bind_eq_some_iff.mp H; obtain ⟨⟨t307, t308⟩, A760, H⟩ := H
             replace H : ((impl_with.f x307001_3 t307 t308).bind fun t309 => (impl_TakeBlock.l1 k3 a1 a0_0 l0_1 l0_2 ((rd_T45 l0_1 x7_2).f0) (wrap64 (x303001_3 - 1)) a0_0 t309)) = some (r1, r2, r3, r4, r5) := H
             have A76 := aM A760; clear A760; replace H := Option.bind_eq_some_iff.mp H; obtain ⟨t309, A770, H⟩ := H; replace H : (impl_TakeBlock.l1 k3 a1 a0_0 l0_1 l0_2 ((rd_T45 l0_1 x7_2).f0) (wrap64 (x303001_3 - 1)) a0_0 t309) = some (r1, r2, r3, r4, r5) := H; have A77 := aM A770; clear A770; have H' := aM H; clear H; have M78 := NB302_294.out; have L78 := NB294_302.out; have M79 := NB302_295.out; have L79 := NB295_302.out; have M80 := NB302_306.out; have L80 := NB306_302.out; have Z81_0 : wr.cell? ⟨gb302, 0, none⟩ = some (.int .i64 ((rd_T45 l0_1 x7_2).f0)) := yc BK302.out 0; have Z81_1 : wr.cell? ⟨gb302, 1, none⟩ = some (.int .i64 x303001_3) := yc BK302.out 1; have Y81_0 := yZ BK302.out 0; have Y81_1 := yZ BK302.out 1
             try go_wp2
             have n0_ : Aside0 (Kd.R k45 45 (wr.setCell ⟨gb302, 1, none⟩ (.int .i64 (wrap64 (x303001_3 - 1)))) w.heap.size (fun k_ => k_ ≠ gb302) u307001 x307001_3) := ⟨xH (xM (xF (p := ⟨gb302, 1, none⟩) (xM p0'.out (fun k_ hk => (⟨hk, hk⟩ : _ ∧ k_ ≠ gb302))) (fun _ hk => hk.2) (.int .i64 (wrap64 (x303001_3 - 1)))) (fun _ hk => hk.1))⟩
             have n1_ : Aside0 ((wr.setCell ⟨gb302, 1, none⟩ (.int .i64 (wrap64 (x303001_3 - 1)))).heap[gb294]? = some (.cells #[.int .i64 a0_0, .slice (some ad301) l0_1.length c0_1, .slice A0_2 l0_2.length c0_2] 28 (0, 0))) := yG BK294.out
             have n2_ : Aside0 ((wr.setCell ⟨gb302, 1, none⟩ (.int .i64 (wrap64 (x303001_3 - 1)))).heap[gb295]? = some (.cells #[.int .i64 0, .slice none 0 0, .slice none 0 0] 28 (0, 0))) := yG BK295.out
             have n3_ : Aside0 ((wr.setCell ⟨gb302, 1, none⟩ (.int .i64 (wrap64 (x303001_3 - 1)))).heap[gb302]? = some (.cells #[.int .i64 ((rd_T45 l0_1 x7_2).f0), .int .i64 (wrap64 (x303001_3 - 1))] 45 (0, 0))) := ⟨by refine yW ?_; refine yP (cs := #[.int .i64 ((rd_T45 l0_1 x7_2).f0), .int .i64 x303001_3]) ?_ 1 _ rfl; refine yW ?_; exact BK302.out⟩
             have n4_ : Aside0 ((wr.setCell ⟨gb302, 1, none⟩ (.int .i64 (wrap64 (x303001_3 - 1)))).heap[gb306]? = some (.cells #[.int .i64 a0_0, u307001, .slice none 0 0] 28 (0, 0))) := yG BK306.out
             have n5_ : Aside0 (Below w.heap.size w (wr.setCell ⟨gb302, 1, none⟩ (.int .i64 (wrap64 (x303001_3 - 1))))) := ⟨zH HB.out⟩
             (try clear p0'); (try clear BK294); (try clear BK295); (try clear BK302); (try clear BK306); (try clear HB)
             generalize (wr.setCell ⟨gb302, 1, none⟩ (.int .i64 (wrap64 (x303001_3 - 1)))) = w82 at n0_ n1_ n2_ n3_ n4_ n5_ ⊢
             have p0' := n0_; have BK294 := n1_; have BK295 := n2_; have BK302 := n3_; have BK306 := n4_; have HB := n5_; clear n0_ n1_ n2_ n3_ n4_ n5_; replace p0' := aM (xD p0'.out); replace BK294 := aM (yD BK294.out); replace BK295 := aM (yD BK295.out); replace BK302 := aM (yD BK302.out); replace BK306 := aM (yD BK306.out); replace HB := aM (zD HB.out)
             refine start_ (n := 7) (S := fun w' => w'.cell? ⟨gb306, 0, none⟩ = some (.int .i64 a0_0) ∧ w'.cell? ⟨gb306, 1, none⟩ = some (u307001) ∧ w'.cell? ⟨gb306, 2, none⟩ = some (.slice none 0 0) ∧ w'.cell? ⟨gb302, 0, none⟩ = some (.int .i64 ((rd_T45 l0_1 x7_2).f0)) ∧ w'.cell? ⟨gb302, 1, none⟩ = some (.int .i64 (wrap64 (x303001_3 - 1)))) (ds := [6]) #[fF,fF,fF,fF,fF,fF,fF] (by kernel_rfl) rfl rfl ⟨yc BK306.out 0, yc BK306.out 1, yc BK306.out 2, yc BK302.out 0, yc BK302.out 1⟩ (fun hHeld => ?_)
             generalize w82.drew = w83 at p0' BK294 BK295 BK302 BK306 HB hHeld ⊢
             refine pure_ (i := 0) (N := some 75) (v := ?_) (a' := ?_) #[tT,fF,fF,fF,fF,fF,fF] rfl rfl (by kernel_rfl) (fun _ _ _ h => h) (Or.inl ⟨by rfl, ?_⟩) ?_ ?_
             rotate_left
             ·intro w'
              go_simp
              with_reducible rfl
             rotate_left
             ·simp only [Act.put, qA, qB, qC, i64_w, i32_w]
              rfl
             refine take_ (i := 1) (N := some 76) (v := ?_) (a' := ?_) #[tT,tT,fF,fF,fF,fF,fF] rfl rfl (by kernel_rfl) (fun _ _ _ h => h) (Or.inl ⟨by rfl, ?_⟩) hHeld ?_ ?_
             rotate_left
             ·rintro w' ⟨s0, s1, s2, s3, s4⟩
              go_simp
              with_reducible rfl
             rotate_left
             ·simp only [Act.put, qA, qB, qC, i64_w, i32_w]
              rfl
             refine take_ (i := 2) (N := some 77) (v := ?_) (a' := ?_) #[tT,tT,tT,fF,fF,fF,fF] rfl rfl (by kernel_rfl) (fun _ _ _ h => h) (Or.inl ⟨by rfl, ?_⟩) hHeld ?_ ?_
             rotate_left
             ·rintro w' ⟨s0, s1, s2, s3, s4⟩
              go_simp
              with_reducible rfl
             rotate_left
             ·simp only [Act.put, qA, qB, qC, i64_w, i32_w]
              rfl
             refine one_ (i := 3) (N := some 78) #[tT,tT,tT,tT,fF,fF,fF] rfl rfl (by kernel_rfl) (by decide) (fun K hK => ?_)
             refine gS Try.func38 (by kernel_rfl) rfl #[.agg #[.int .i64 ((rd_T45 l0_1 x7_2).f0), .int .i64 (wrap64 (x303001_3 - 1))]] (by rfl) rfl rfl ?_
             with_reducible refine (impl_Block_buddy.calls ((rd_T45 l0_1 x7_2).f0) (wrap64 (x303001_3 - 1)) t307 t308 _ A76.out).mono ?_
             rintro e w84 ⟨rfl, hb⟩
             refine ⟨_, rfl, ?_⟩
             replace p0' := xK p0'.out hb; replace BK294 := yK BK294.out hb; replace BK295 := yK BK295.out hb; replace BK302 := yK BK302.out hb; replace BK306 := yK BK306.out hb; replace HB := aM (zT (zH HB.out) hb)
             (try clear hb)
             obtain ⟨Ao85, co85, eo85⟩ := Kd.R_slice p0'.out
             (first | subst eo85 | obtain ⟨rfl, rfl⟩ := eI eo85)
             refine hK.out _ _ ⟨yc BK306.out 0, yc BK306.out 1, yc BK306.out 2, yc BK302.out 0, yc BK302.out 1⟩ (fun hHeld => ?_)
             clear hK K; refine nN 78 ?_
             refine one_ (i := 4) (N := some 79) #[tT,tT,tT,tT,tT,fF,fF] rfl rfl (by kernel_rfl) (by decide) (fun K hK => ?_)
             refine gS Try.func39 (by kernel_rfl) rfl #[.slice Ao85 x307001_3.length co85, .agg #[.int .i64 t307, .int .i64 t308]] (by rfl) rfl rfl ?_
             with_reducible refine (impl_with.calls _ _ x307001_3 t307 t308 t309 _ ?side1 ?side2 A77.out).mono ?_
             (case side1 => exact cS (Kd.R_reads' p0'.out).2.2)
             (case side2 => exact (Kd.R_reads' p0'.out).2.1)
             rintro e w86 ⟨v310, rfl, ho0, hb⟩
             refine ⟨_, rfl, ?_⟩
             have HO311 := aM (xL (Kd.R_newB (Kd.R_new' ho0 (Kd.R_lt (xH p0'.out))) (g := gb302) (o := .cells #[.int .i64 ((rd_T45 l0_1 x7_2).f0), .int .i64 (wrap64 (x303001_3 - 1))] 45 (0, 0)) (yH BK302.out)) (zZ (zH HB.out))); replace p0' := aM (Kd.R_elder' (xH p0'.out) (Kd.R_base ho0) hb); replace BK294 := yK BK294.out hb; replace BK295 := yK BK295.out hb; replace BK302 := yK BK302.out hb; replace BK306 := yK BK306.out hb; replace HB := aM (zT (zH HB.out) hb)
             (try clear hb); (try clear ho0)
             obtain ⟨Ao87, co87, eo87⟩ := Kd.R_slice HO311.out
             (first | subst eo87 | obtain ⟨rfl, rfl⟩ := eI eo87)
             refine hK.out _ _ ⟨yc BK306.out 0, yc BK306.out 1, yc BK306.out 2, yc BK302.out 0, yc BK302.out 1⟩ (fun hHeld => ?_)
             clear hK K; refine nN 79 ?_
             refine pure_ (i := 5) (N := some 80) (v := ?_) (a' := ?_) #[tT,tT,tT,tT,tT,tT,fF] rfl rfl (by kernel_rfl) (fun _ _ _ h => h) (Or.inl ⟨by rfl, ?_⟩) ?_ ?_
             rotate_left
             ·intro w'
              go_simp
              with_reducible rfl
             rotate_left
             ·simp only [Act.put, qA, qB, qC, i64_w, i32_w]
              rfl
             refine last_ (i := 6) (N := none) #[tT,tT,tT,tT,tT,tT,tT] rfl rfl (by kernel_rfl) (by decide) (fun K hK => ?_)
             have hs88 : w86.cell? ⟨gb306, 1, none⟩ = some (.slice Ao85 x307001_3.length co85) := yc BK306.out 1; have hfs88 := yZ BK306.out 1; have hns88_0 := NB294_306.out; have hns88_1 := NB295_306.out; have hns88_2 := NB302_306.out; have hms88_0 := NB306_294.out; have hms88_1 := NB306_295.out; have hms88_2 := NB306_302.out
             refine skip_ (w1 := ?_) (by rfl) rfl ?_ ?_
             rotate_left
             ·go_simp
              rfl
             refine hK.out _ _ ?_
             clear hK K
             refine done_ (by kernel_rfl) ?_
             try go_wp2
             go_roundg k3
             case measure => have := HJ2.out; have := HK2.out; have := HK3.out; omega
             case rel => exact ⟨(wrap64 (x303001_3 - 1)), (t309), (.slice Ao87 t309.length co87), H', ⟨by have := HJ2.out; have := HK2.out; have := HK3.out; omega⟩, ⟨xH (xM (xF (p := ⟨gb306, 1, none⟩) (xT HO311.out BK306.out (by decide)) (fun _ hk => hk.2) (.slice Ao87 t309.length co87)) (fun _ hk => hk.1.2))⟩, yG BK294.out, yG BK295.out, yG BK302.out, ⟨by refine yW ?_; refine yP (cs := #[.int .i64 a0_0, .slice Ao85 x307001_3.length co85, .slice none 0 0]) ?_ 1 _ rfl; refine yW ?_; exact BK306.out⟩, ⟨zH HB.out⟩⟩
            ·rw [if_neg c75] at H
             have c75b0 : decide (a1 < x303001_3) = false := decide_eq_false c75; clear c75; replace H := Option.bind_eq_some_iff.mp H; obtain ⟨t312, A890, H⟩ := H; replace H : (some (a0_0, x307001_3, t312, ((rd_T45 l0_1 x7_2).f0), true)) = some (r1, r2, r3, r4, r5) := H; have A89 := aM A890; clear A890
             simp only [Option.some.injEq, Prod.mk.injEq] at H
             obtain ⟨rfl, rfl, rfl, rfl, rfl⟩ := H; have M90 := NB302_294.out; have L90 := NB294_302.out; have M91 := NB302_295.out; have L91 := NB295_302.out; have M92 := NB302_306.out; have L92 := NB306_302.out; have Z93_0 : wr.cell? ⟨gb302, 0, none⟩ = some (.int .i64 ((rd_T45 l0_1 x7_2).f0)) := yc BK302.out 0; have Z93_1 : wr.cell? ⟨gb302, 1, none⟩ = some (.int .i64 x303001_3) := yc BK302.out 1; have Y93_0 := yZ BK302.out 0; have Y93_1 := yZ BK302.out 1; have M94 := NB294_295.out; have L94 := NB295_294.out; have M95 := NB294_306.out; have L95 := NB306_294.out; have Z96_0 : wr.cell? ⟨gb294, 0, none⟩ = some (.int .i64 a0_0) := yc BK294.out 0; have Z96_1 : wr.cell? ⟨gb294, 1, none⟩ = some (.slice (some ad301) l0_1.length c0_1) := yc BK294.out 1; have Z96_2 : wr.cell? ⟨gb294, 2, none⟩ = some (.slice A0_2 l0_2.length c0_2) := yc BK294.out 2; have Y96_0 := yZ BK294.out 0; have Y96_1 := yZ BK294.out 1; have Y96_2 := yZ BK294.out 2
             try go_wp2_with (first | ((with_reducible refine gate_callee (f := 39) rfl ?_); refine goesL_ (some 84) rfl rfl Try.func39 (by kernel_rfl) rfl #[.slice A0_2 l0_2.length c0_2, .agg #[.int .i64 ((rd_T45 l0_1 x7_2).f0), .int .i64 x303001_3]] rfl mA ?_; (with_reducible refine (impl_with.calls _ _ l0_2 ((rd_T45 l0_1 x7_2).f0) x303001_3 t312 _ ?side1 ?side2 A89.out).mono ?_); (case side1 => exact cK HR0_2.out HB.out); (case side2 => exact HC0_2.out); rintro e w97 ⟨v313, rfl, ho0, hb⟩; refine ⟨_, rfl, ?_⟩; have HO314 := aM (xL (Kd.R_newB (Kd.R_new' ho0 (Kd.R_lt (xH p0'.out))) (g := gb302) (o := .cells #[.int .i64 ((rd_T45 l0_1 x7_2).f0), .int .i64 x303001_3] 45 (0, 0)) (yH BK302.out)) (zZ (zH HB.out))); replace p0' := aM (Kd.R_elder' (xH p0'.out) (Kd.R_base ho0) hb); replace BK294 := yK BK294.out hb; replace BK295 := yK BK295.out hb; replace BK302 := yK BK302.out hb; replace BK306 := yK BK306.out hb; replace HB := aM (zT (zH HB.out) hb); (try clear hb); (try clear ho0); obtain ⟨Ao98, co98, eo98⟩ := Kd.R_slice HO314.out; subst eo98; have M99 := NB306_295.out; have L99 := NB295_306.out; obtain ⟨Z100_0, Z100_1, Z100_2, Y100_0, Y100_1, Y100_2⟩ := y3 BK306.out))
             have n0_ : Aside0 (Kd.R k45 45 (w97.setCell ⟨gb306, 2, none⟩ (.slice Ao98 t312.length co98)) w.heap.size (fun k_ => some k_ ≠ oB Ao98 t312.length co98 ∧ k_ ≠ gb302) u307001 x307001_3) := ⟨xH (xM (xF (p := ⟨gb306, 2, none⟩) (xT p0'.out BK306.out (by decide)) (fun _ hk => hk.2) (.slice Ao98 t312.length co98)) (fun _ hk => ⟨hk.1.2, hk.1.1⟩))⟩
             have n1_ : Aside0 (Kd.R k45 45 (w97.setCell ⟨gb306, 2, none⟩ (.slice Ao98 t312.length co98)) w.heap.size (fun k_ => some k_ ≠ (u307001 : Value).ownBlock ∧ k_ ≠ gb302) (.slice Ao98 t312.length co98) t312) := ⟨xH (xM (xF (p := ⟨gb306, 2, none⟩) (xT HO314.out BK306.out (by decide)) (fun _ hk => hk.2) (.slice Ao98 t312.length co98)) (fun _ hk => ⟨hk.1.1.2, hk.1.2⟩))⟩
             have n2_ : Aside0 ((w97.setCell ⟨gb306, 2, none⟩ (.slice Ao98 t312.length co98)).heap[gb294]? = some (.cells #[.int .i64 a0_0, .slice (some ad301) l0_1.length c0_1, .slice A0_2 l0_2.length c0_2] 28 (0, 0))) := yG BK294.out
             have n3_ : Aside0 ((w97.setCell ⟨gb306, 2, none⟩ (.slice Ao98 t312.length co98)).heap[gb295]? = some (.cells #[.int .i64 0, .slice none 0 0, .slice none 0 0] 28 (0, 0))) := yG BK295.out
             have n4_ : Aside0 ((w97.setCell ⟨gb306, 2, none⟩ (.slice Ao98 t312.length co98)).heap[gb302]? = some (.cells #[.int .i64 ((rd_T45 l0_1 x7_2).f0), .int .i64 x303001_3] 45 (0, 0))) := yG BK302.out
             have n5_ : Aside0 ((w97.setCell ⟨gb306, 2, none⟩ (.slice Ao98 t312.length co98)).heap[gb306]? = some (.cells #[.int .i64 a0_0, u307001, .slice Ao98 t312.length co98] 28 (0, 0))) := ⟨by refine yW ?_; refine yP (cs := #[.int .i64 a0_0, u307001, .slice none 0 0]) ?_ 2 _ rfl; refine yW ?_; exact BK306.out⟩
             have n6_ : Aside0 (Below w.heap.size w (w97.setCell ⟨gb306, 2, none⟩ (.slice Ao98 t312.length co98))) := ⟨zH HB.out⟩
             (try clear p0'); (try clear HO314); (try clear BK294); (try clear BK295); (try clear BK302); (try clear BK306); (try clear HB)
             generalize (w97.setCell ⟨gb306, 2, none⟩ (.slice Ao98 t312.length co98)) = w101 at n0_ n1_ n2_ n3_ n4_ n5_ n6_ ⊢
             have p0' := n0_; have HO314 := n1_; have BK294 := n2_; have BK295 := n3_; have BK302 := n4_; have BK306 := n5_; have HB := n6_; clear n0_ n1_ n2_ n3_ n4_ n5_ n6_; replace p0' := aM (xD p0'.out); replace HO314 := aM (xD HO314.out); replace BK294 := aM (yD BK294.out); replace BK295 := aM (yD BK295.out); replace BK302 := aM (yD BK302.out); replace BK306 := aM (yD BK306.out); replace HB := aM (zD HB.out); obtain ⟨Ao104, co104, eo104⟩ := Kd.R_slice p0'.out
             (first | subst eo104 | obtain ⟨rfl, rfl⟩ := eI eo104)
             refine start_ (n := 6) (S := fun w' => w'.cell? ⟨gb306, 0, none⟩ = some (.int .i64 a0_0) ∧ w'.cell? ⟨gb306, 1, none⟩ = some (.slice Ao104 x307001_3.length co104) ∧ w'.cell? ⟨gb306, 2, none⟩ = some (.slice Ao98 t312.length co98) ∧ w'.cell? ⟨gb302, 0, none⟩ = some (.int .i64 ((rd_T45 l0_1 x7_2).f0)) ∧ w'.cell? ⟨gb302, 1, none⟩ = some (.int .i64 x303001_3)) (ds := []) #[fF,fF,fF,fF,fF,fF] (by kernel_rfl) rfl rfl ⟨yc BK306.out 0, yc BK306.out 1, yc BK306.out 2, yc BK302.out 0, yc BK302.out 1⟩ (fun hHeld => ?_)
             generalize w101.drew = w102 at p0' HO314 BK294 BK295 BK302 BK306 HB hHeld ⊢
             refine pure_ (i := 1) (N := some 87) (v := ?_) (a' := ?_) #[fF,tT,fF,fF,fF,fF] rfl rfl (by kernel_rfl) (fun _ _ _ h => h) (Or.inl ⟨by rfl, ?_⟩) ?_ ?_
             rotate_left
             ·intro w'
              go_simp
              with_reducible rfl
             rotate_left
             ·simp only [Act.put, qA, qB, qC, i64_w, i32_w]
              rfl
             refine take_ (i := 0) (N := some 86) (v := ?_) (a' := ?_) #[tT,tT,fF,fF,fF,fF] rfl rfl (by kernel_rfl) (fun _ _ _ h => h) (Or.inl ⟨by rfl, ?_⟩) hHeld ?_ ?_
             rotate_left
             ·rintro w' ⟨s0, s1, s2, s3, s4⟩
              go_simp
              with_reducible rfl
             rotate_left
             ·simp only [Act.put, qA, qB, qC, i64_w, i32_w]
              rfl
             refine take_ (i := 2) (N := some 88) (v := ?_) (a' := ?_) #[tT,tT,tT,fF,fF,fF] rfl rfl (by kernel_rfl) (fun _ _ _ h => h) (Or.inl ⟨by rfl, ?_⟩) hHeld ?_ ?_
             rotate_left
             ·rintro w' ⟨s0, s1, s2, s3, s4⟩
              go_simp
              with_reducible rfl
             rotate_left
             ·simp only [Act.put, qA, qB, qC, i64_w, i32_w]
              rfl
             refine one_ (i := 3) (N := none) #[tT,tT,tT,tT,fF,fF] rfl rfl (by kernel_rfl) (by decide) (fun K hK => ?_)
             have hs103 : w102.cell? ⟨gb295, 0, none⟩ = some (.int .i64 0) := yc BK295.out 0; have hfs103 := yZ BK295.out 0; have hns103_0 := NB294_295.out; have hns103_2 := NB302_295.out; have hns103_3 := NB306_295.out; have hms103_0 := NB295_294.out; have hms103_2 := NB295_302.out; have hms103_3 := NB295_306.out; have hs105 : w102.cell? ⟨gb295, 1, none⟩ = some (.slice none 0 0) := yc BK295.out 1; have hfs105 := yZ BK295.out 1; have hns105_0 := NB294_295.out; have hns105_2 := NB302_295.out; have hns105_3 := NB306_295.out; have hms105_0 := NB295_294.out; have hms105_2 := NB295_302.out; have hms105_3 := NB295_306.out; have hs106 : w102.cell? ⟨gb295, 2, none⟩ = some (.slice none 0 0) := yc BK295.out 2; have hfs106 := yZ BK295.out 2; have hns106_0 := NB294_295.out; have hns106_2 := NB302_295.out; have hns106_3 := NB306_295.out; have hms106_0 := NB295_294.out; have hms106_2 := NB295_302.out; have hms106_3 := NB295_306.out
             refine skip_ (w1 := ?_) (by rfl) rfl ?_ ?_
             rotate_left
             ·go_simp
              rfl
             refine hK.out _ _ ⟨((cell_far (p := ⟨gb295, _, none⟩) NB306_295.out _).trans (((cell_far (p := ⟨gb295, _, none⟩) NB306_295.out _).trans (((cell_far (p := ⟨gb295, _, none⟩) NB306_295.out _).trans (hHeld.1)))))), ((cell_far (p := ⟨gb295, _, none⟩) NB306_295.out _).trans (((cell_far (p := ⟨gb295, _, none⟩) NB306_295.out _).trans (((cell_far (p := ⟨gb295, _, none⟩) NB306_295.out _).trans (hHeld.2.1)))))), ((cell_far (p := ⟨gb295, _, none⟩) NB306_295.out _).trans (((cell_far (p := ⟨gb295, _, none⟩) NB306_295.out _).trans (((cell_far (p := ⟨gb295, _, none⟩) NB306_295.out _).trans (hHeld.2.2.1)))))), ((cell_far (p := ⟨gb295, _, none⟩) NB302_295.out _).trans (((cell_far (p := ⟨gb295, _, none⟩) NB302_295.out _).trans (((cell_far (p := ⟨gb295, _, none⟩) NB302_295.out _).trans (hHeld.2.2.2.1)))))), ((cell_far (p := ⟨gb295, _, none⟩) NB302_295.out _).trans (((cell_far (p := ⟨gb295, _, none⟩) NB302_295.out _).trans (((cell_far (p := ⟨gb295, _, none⟩) NB302_295.out _).trans (hHeld.2.2.2.2))))))⟩ (fun hHeld => ?_)
             clear hK K
             refine pure_ (i := 4) (N := some 5) (v := ?_) (a' := ?_) #[tT,tT,tT,tT,tT,fF] rfl rfl (by kernel_rfl) (fun _ _ _ h => h) (Or.inl ⟨by rfl, ?_⟩) ?_ ?_
             rotate_left
             ·intro w'
              go_simp
              with_reducible rfl
             rotate_left
             ·simp only [Act.put, qA, qB, qC, i64_w, i32_w]
              rfl
             refine pure_ (i := 5) (N := some 6) (v := ?_) (a' := ?_) #[tT,tT,tT,tT,tT,tT] rfl rfl (by kernel_rfl) (fun _ _ _ h => h) (Or.inl ⟨by rfl, ?_⟩) ?_ ?_
             rotate_left
             ·intro w'
              go_simp
              with_reducible rfl
             rotate_left
             ·simp only [Act.put, qA, qB, qC, i64_w, i32_w]
              rfl
             refine done_ (by kernel_rfl) ?_
             try go_wp2
             refine bodyPost_ret (results_ctt rfl _ _ gb295 28 #[.int .i64 a0_0, .slice Ao104 x307001_3.length co104, .slice Ao98 t312.length co98] (0, 0) _ rfl (by refine yW ?_; refine yP (cs := #[.int .i64 a0_0, .slice Ao104 x307001_3.length co104, .slice none 0 0]) ?_ 2 _ rfl; refine yW ?_; refine yP (cs := #[.int .i64 a0_0, .slice none 0 0, .slice none 0 0]) ?_ 1 _ rfl; refine yW ?_; refine yP (cs := #[.int .i64 0, .slice none 0 0, .slice none 0 0]) ?_ 0 _ rfl; refine yW ?_; exact BK295.out) Try.underlying28 rfl (by kernel_rfl)) rfl ?_
             exact ⟨_, _, eW, xH (xM (xF (p := ⟨gb295, 2, none⟩) (xF (p := ⟨gb295, 1, none⟩) (xF (p := ⟨gb295, 0, none⟩) (xT p0'.out BK295.out (by decide)) (fun _ hk => hk.2) (.int .i64 a0_0)) (fun _ hk => hk.2) (.slice Ao104 x307001_3.length co104)) (fun _ hk => hk.2) (.slice Ao98 t312.length co98)) (fun _ hk => hk.1.1)), xH (xM (xF (p := ⟨gb295, 2, none⟩) (xF (p := ⟨gb295, 1, none⟩) (xF (p := ⟨gb295, 0, none⟩) (xT HO314.out BK295.out (by decide)) (fun _ hk => hk.2) (.int .i64 a0_0)) (fun _ hk => hk.2) (.slice Ao104 x307001_3.length co104)) (fun _ hk => hk.2) (.slice Ao98 t312.length co98)) (fun _ hk => hk.1.1)), zH HB.out⟩
         ·rw [if_neg c57] at H
          exact absurd H (by simp)
        ·rw [if_neg c56] at H
         exact absurd H (by simp)

end Go.Proofs.Ytbjcioihomeikaa.PFnBuddies
