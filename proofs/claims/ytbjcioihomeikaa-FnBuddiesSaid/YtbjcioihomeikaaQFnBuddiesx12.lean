/- The walks of FnBuddies: Go's calls come to what the Lean functions beside them say; no condition. -/
import Derived.Test.YtbjcioihomeikaaQFnBuddiesx0
import Derived.Test.YtbjcioihomeikaaQFnBuddiesx2
import Derived.Test.YtbjcioihomeikaaQFnBuddiesx4
import Derived.Test.YtbjcioihomeikaaQFnBuddiesx5
namespace Go.Proofs.Ytbjcioihomeikaa.PFnBuddies
open Go.RowKit Go.Proofs.YtbjcioihomeikaaW.PrintWords Go.Proofs.YtbjcioihomeikaaW.PrintLast Go.Proofs.YtbjcioihomeikaaW.PrintMore
attribute [local go_sem] max2_int min2_int max_two min_two max_three min_three max_four min_four   -- for this text's walks alone
set_option linter.unusedVariables false
set_option linter.unusedSimpArgs false
set_option maxRecDepth 100000

/-! ### spec_TakeBlock: function 15 -/
mutual
def spec_TakeBlock.j0 : Nat → Int → Bool → Int → List (S45) → List (S45) → Option (Int × (List (S45)) × (List (S45)) × Int × Bool)
 | 0, _, _, _, _, _ => none
 | k + 1, x1, x21, x275000, x275001, x275002 => if x21 = true then (some (0, ([] : List (S45)), ([] : List (S45)), 0, false)) else (spec_TakeBlock.l0 k x1 (-1) x275001 (x275001.length : Int) 0 x275000 x275001 x275002)
def spec_TakeBlock.l0 : Nat → Int → Int → List (S45) → Int → Int → Int → List (S45) → List (S45) → Option (Int × (List (S45)) × (List (S45)) × Int × Bool)
 | 0, _, _, _, _, _, _, _, _ => none
 | k + 1, x1, x7, x24, x25, x26, x275000, x275001, x275002 => if x26 < x25 then (if 0 ≤ x26 then (if x26 < (x24.length : Int) then (if ((rd_T45 x24 x26).f1) ≥ x1 then (if x7 < 0 then (spec_TakeBlock.l0 k x1 x26 x24 x25 (wrap64 (x26 + 1)) x275000 x275001 x275002) else (if 0 ≤ x7 then (if x7 < (x275001.length : Int) then (if ((rd_T45 x24 x26).f1) < ((rd_T45 x275001 x7).f1) then (spec_TakeBlock.l0 k x1 x26 x24 x25 (wrap64 (x26 + 1)) x275000 x275001 x275002) else (spec_TakeBlock.l0 k x1 x7 x24 x25 (wrap64 (x26 + 1)) x275000 x275001 x275002)) else (none)) else (none))) else (spec_TakeBlock.l0 k x1 x7 x24 x25 (wrap64 (x26 + 1)) x275000 x275001 x275002)) else (none)) else (none)) else (if x7 < 0 then (some (0, ([] : List (S45)), ([] : List (S45)), 0, false)) else (if 0 ≤ x7 then (if x7 < (x275001.length : Int) then ((spec_l6Without.f x275001 x7).bind fun t283 => (spec_TakeBlock.l1 k x1 t283 x275000 x275001 x275002 ((rd_T45 x275001 x7).f0) ((rd_T45 x275001 x7).f1))) else (none)) else (none)))
def spec_TakeBlock.l1 : Nat → Int → List (S45) → Int → List (S45) → List (S45) → Int → Int → Option (Int × (List (S45)) × (List (S45)) × Int × Bool)
 | 0, _, _, _, _, _, _, _ => none
 | k + 1, x1, x11, x275000, x275001, x275002, x283000, x283001 => if x283001 > x1 then ((spec_l6Buddy.f x283000 (wrap64 (x283001 - 1))).bind fun bt286 => ((spec_l6Put.f k x11 bt286.1 bt286.2).bind fun t288 => (spec_TakeBlock.l1 k x1 t288 x275000 x275001 x275002 x283000 (wrap64 (x283001 - 1))))) else ((spec_l6Put.f k x275002 x283000 x283001).bind fun t291 => (some (x275000, x11, t291, x283000, true)))
end
def spec_TakeBlock.f (k : Nat) (a0_0 : Int) (l0_1 : List (S45)) (l0_2 : List (S45)) (a1 : Int) : Option (Int × (List (S45)) × (List (S45)) × Int × Bool) := (spec_GoodBuddy.f k a0_0 l0_1 l0_2).bind fun t276 => (if t276 = true then ((spec_l1In.f a1 0 a0_0).bind fun t277 => (spec_TakeBlock.j0 k a1 (!t277) a0_0 l0_1 l0_2)) else (spec_TakeBlock.j0 k a1 true a0_0 l0_1 l0_2))
theorem spec_TakeBlock.mono_l : ∀ k, (∀ y0 y1 y2 y3 y4, LeO (spec_TakeBlock.j0 k y0 y1 y2 y3 y4) (spec_TakeBlock.j0 (k + 1) y0 y1 y2 y3 y4)) ∧ (∀ y0 y1 y2 y3 y4 y5 y6 y7, LeO (spec_TakeBlock.l0 k y0 y1 y2 y3 y4 y5 y6 y7) (spec_TakeBlock.l0 (k + 1) y0 y1 y2 y3 y4 y5 y6 y7)) ∧ (∀ y0 y1 y2 y3 y4 y5 y6, LeO (spec_TakeBlock.l1 k y0 y1 y2 y3 y4 y5 y6) (spec_TakeBlock.l1 (k + 1) y0 y1 y2 y3 y4 y5 y6))
 | 0 => ⟨fun _ _ _ _ _ r h => by simp [spec_TakeBlock.j0] at h, fun _ _ _ _ _ _ _ _ r h => by simp [spec_TakeBlock.l0] at h, fun _ _ _ _ _ _ _ r h => by simp [spec_TakeBlock.l1] at h⟩
 | k + 1 => by
  obtain ⟨ih0, ih1, ih2⟩ := spec_TakeBlock.mono_l k
  refine ⟨?_, ?_, ?_⟩
  ·intro y0 y1 y2 y3 y4
   unfold spec_TakeBlock.j0
   repeat' first
   | (with_reducible exact ih0 _ _ _ _ _)
   | (with_reducible exact ih1 _ _ _ _ _ _ _ _)
   | (with_reducible exact ih2 _ _ _ _ _ _ _)
   | (with_reducible exact spec_GoodBuddy.mono _ _ _ _)
   | (with_reducible exact spec_l6Put.mono _ _ _ _)
   | (with_reducible exact LeO.refl _)
   | (with_reducible exact LeO.none _)
   | (with_reducible refine LeO.ite ?_ ?_)
   | (with_reducible refine LeO.bind ?_ (fun _ => ?_))
   | exact ih0 _ _ _ _ _
   | exact ih1 _ _ _ _ _ _ _ _
   | exact ih2 _ _ _ _ _ _ _
   | exact spec_GoodBuddy.mono _ _ _ _
   | exact spec_l6Put.mono _ _ _ _
   | exact LeO.none _
   | refine LeO.ite ?_ ?_
   | refine LeO.bind ?_ (fun _ => ?_)
  ·intro y0 y1 y2 y3 y4 y5 y6 y7
   unfold spec_TakeBlock.l0
   repeat' first
   | (with_reducible exact ih0 _ _ _ _ _)
   | (with_reducible exact ih1 _ _ _ _ _ _ _ _)
   | (with_reducible exact ih2 _ _ _ _ _ _ _)
   | (with_reducible exact spec_GoodBuddy.mono _ _ _ _)
   | (with_reducible exact spec_l6Put.mono _ _ _ _)
   | (with_reducible exact LeO.refl _)
   | (with_reducible exact LeO.none _)
   | (with_reducible refine LeO.ite ?_ ?_)
   | (with_reducible refine LeO.bind ?_ (fun _ => ?_))
   | exact ih0 _ _ _ _ _
   | exact ih1 _ _ _ _ _ _ _ _
   | exact ih2 _ _ _ _ _ _ _
   | exact spec_GoodBuddy.mono _ _ _ _
   | exact spec_l6Put.mono _ _ _ _
   | exact LeO.none _
   | refine LeO.ite ?_ ?_
   | refine LeO.bind ?_ (fun _ => ?_)
  ·intro y0 y1 y2 y3 y4 y5 y6
   unfold spec_TakeBlock.l1
   repeat' first
   | (with_reducible exact ih0 _ _ _ _ _)
   | (with_reducible exact ih1 _ _ _ _ _ _ _ _)
   | (with_reducible exact ih2 _ _ _ _ _ _ _)
   | (with_reducible exact spec_GoodBuddy.mono _ _ _ _)
   | (with_reducible exact spec_l6Put.mono _ _ _ _)
   | (with_reducible exact LeO.refl _)
   | (with_reducible exact LeO.none _)
   | (with_reducible refine LeO.ite ?_ ?_)
   | (with_reducible refine LeO.bind ?_ (fun _ => ?_))
   | exact ih0 _ _ _ _ _
   | exact ih1 _ _ _ _ _ _ _ _
   | exact ih2 _ _ _ _ _ _ _
   | exact spec_GoodBuddy.mono _ _ _ _
   | exact spec_l6Put.mono _ _ _ _
   | exact LeO.none _
   | refine LeO.ite ?_ ?_
   | refine LeO.bind ?_ (fun _ => ?_)
theorem spec_TakeBlock.mono : ∀ a0 a1 a2 a3 k, LeO (spec_TakeBlock.f k a0 a1 a2 a3) (spec_TakeBlock.f (k + 1) a0 a1 a2 a3) := by
 intro a0 a1 a2 a3 k
 obtain ⟨ih0, ih1, ih2⟩ := spec_TakeBlock.mono_l k
 unfold spec_TakeBlock.f
 repeat' first
   | (with_reducible exact ih0 _ _ _ _ _)
   | (with_reducible exact ih1 _ _ _ _ _ _ _ _)
   | (with_reducible exact ih2 _ _ _ _ _ _ _)
   | (with_reducible exact spec_GoodBuddy.mono _ _ _ _)
   | (with_reducible exact spec_l6Put.mono _ _ _ _)
   | (with_reducible exact LeO.refl _)
   | (with_reducible exact LeO.none _)
   | (with_reducible refine LeO.ite ?_ ?_)
   | (with_reducible refine LeO.bind ?_ (fun _ => ?_))
   | exact ih0 _ _ _ _ _
   | exact ih1 _ _ _ _ _ _ _ _
   | exact ih2 _ _ _ _ _ _ _
   | exact spec_GoodBuddy.mono _ _ _ _
   | exact spec_l6Put.mono _ _ _ _
   | exact LeO.none _
   | refine LeO.ite ?_ ?_
   | refine LeO.bind ?_ (fun _ => ?_)
def spec_TakeBlock.T7 : Bool × List (List Nat × List Nat) := (true, [([], []), ([0], [0]), ([], []), ([1, 2], [1, 2]), ([3], [3]), ([4], [4]), ([5, 4], [4, 5]), ([6, 4, 4], [4, 6]), ([7], [7]), ([8, 7], [7, 8]), ([7], [7]), ([10, 7], [7, 10]), ([7], [7]), ([11, 12, 7], [7, 11, 12]), ([13, 7], [7, 13]), ([14, 7], [7, 14]), ([9, 15, 7], [7, 9, 15]), ([7, 16, 4], [4, 7, 16]), ([4, 17], [4, 17])])
def spec_TakeBlock.B7 : List Nat := [0, 1, 0, 7, 15, 31, 63, 127, 255, 511, 255, 1279, 255, 7423, 15615, 31999, 65535, 131071, 262143]
theorem spec_TakeBlock.tab7 : rtab .any (opsOf Try.f15 7) = spec_TakeBlock.T7 := by kernel_rfl
theorem spec_TakeBlock.bits7 : waitsOk spec_TakeBlock.T7.2 spec_TakeBlock.B7 = true := by kernel_rfl
def spec_TakeBlock.T17 : Bool × List (List Nat × List Nat) := (true, [([], []), ([0], [0]), ([], []), ([], []), ([3], [3]), ([], []), ([4, 5], [4, 5]), ([1, 2, 6], [1, 2, 6]), ([], []), ([8], [8]), ([7, 6, 0, 1, 2, 3, 4, 5, 6, 7], [7]), ([9, 10, 0, 1, 2, 3, 4, 5, 6, 7, 8, 9, 10], [9]), ([11, 0, 1, 2, 3, 4, 5, 6, 7, 8, 9, 10, 11], [])])
def spec_TakeBlock.B17 : List Nat := [0, 1, 0, 0, 8, 0, 56, 127, 0, 256, 255, 2047, 4095]
theorem spec_TakeBlock.tab17 : rtab .any (opsOf Try.f15 17) = spec_TakeBlock.T17 := by kernel_rfl
theorem spec_TakeBlock.bits17 : waitsOk spec_TakeBlock.T17.2 spec_TakeBlock.B17 = true := by kernel_rfl
set_option maxHeartbeats 8000000 in
set_option maxRecDepth 100000 in
theorem spec_TakeBlock.calls (k : Nat) (a0_0 : Int) (A0_1 : Option Addr) (c0_1 : Nat) (l0_1 : List (S45)) (A0_2 : Option Addr) (c0_2 : Nat) (l0_2 : List (S45)) (a1 : Int) (r1 : Int) (r2 : List (S45)) (r3 : List (S45)) (r4 : Int) (r5 : Bool) (w : World) (hr0_1 : Kd.C k45 w A0_1 l0_1.length l0_1) (hc0_1 : l0_1.length ≤ c0_1) (hr0_2 : Kd.C k45 w A0_2 l0_2.length l0_2) (hc0_2 : l0_2.length ≤ c0_2) (h : spec_TakeBlock.f k a0_0 l0_1 l0_2 a1 = some (r1, r2, r3, r4, r5)) :
  Calls Try.prog 15 #[.agg #[.int .i64 a0_0, .slice A0_1 l0_1.length c0_1, .slice A0_2 l0_2.length c0_2], .int .i64 a1] w fun e w' => ∃ v1_ v2_ : Value, e = .returned (.tuple #[.agg #[.int .i64 r1, v1_, v2_], .int .i64 r4, .bool r5]) ∧ Kd.R k45 45 w' w.heap.size (fun k_ => some k_ ≠ (v2_ : Value).ownBlock) v1_ r2 ∧ Kd.R k45 45 w' w.heap.size (fun k_ => some k_ ≠ (v1_ : Value).ownBlock) v2_ r3 ∧ Below w.heap.size w w' := by
 have hu28 := Try.underlying28; have hu45 := Try.underlying45; have HR0_1 := aM hr0_1; have HC0_1 := aM hc0_1; clear hr0_1 hc0_1; have HR0_2 := aM hr0_2; have HC0_2 := aM hc0_2; clear hr0_2 hc0_2; have HB := aM (Below.refl w.heap.size w)
 have H : ((spec_GoodBuddy.f k a0_0 l0_1 l0_2).bind fun t276 => (if t276 = true then ((spec_l1In.f a1 0 a0_0).bind fun t277 => (spec_TakeBlock.j0 k a1 (!t277) a0_0 l0_1 l0_2)) else (spec_TakeBlock.j0 k a1 true a0_0 l0_1 l0_2))) = some (r1, r2, r3, r4, r5) := h
 clear h; have HC3 := aM H; clear H
 go_enter Try.func15, Try.ntmps15
 go_upto_region 1 with (first | ((with_reducible refine gate_dst (N := 2) rfl ?_); refine bE 2 #[.int .i64 a0_0, .slice A0_1 l0_1.length c0_1, .slice A0_2 l0_2.length c0_2] 28 ?_; intro gb274 hg w4 hbox hb; have BK274 := aM (hbox); have GW274 := gW hg HB.out; have GE274 := GW274; replace HB := aM (zT (zH HB.out) hb); clear hb hbox hg) | ((with_reducible refine gate_dst (N := 4) rfl ?_); refine bE 4 #[.int .i64 0, .slice none 0 0, .slice none 0 0] 28 ?_; intro gb275 hg w5 hbox hb; have BK275 := aM (hbox); have GW275 := gW hg HB.out; have GE275 := GW275; replace HB := aM (zT (zH HB.out) hb); have NB274_275 := nL BK274.out hg; have NB275_274 := nR BK274.out hg; replace BK274 := yK BK274.out hb; clear hb hbox hg))
 (try simp only [Act.put, qA, qB, qC])
 go_cut [21] (fun v21 wc => ∃ (kq : Nat) (x21_2 : Bool), v21 = .bool x21_2 ∧ Aside0 (spec_TakeBlock.j0 kq a1 x21_2 a0_0 l0_1 l0_2 = some (r1, r2, r3, r4, r5)) ∧ Aside0 (kq ≤ k) ∧ Aside0 (wc.heap[gb274]? = some (.cells #[.int .i64 a0_0, (.slice A0_1 l0_1.length c0_1), (.slice A0_2 l0_2.length c0_2)] 28 (0, 0))) ∧ Aside0 (wc.heap[gb275]? = some (.cells #[.int .i64 0, (.slice none 0 0), (.slice none 0 0)] 28 (0, 0))) ∧ Aside0 (Below w.heap.size w wc))
 case first =>
  have H := HC3.out; clear HC3; replace H := Option.bind_eq_some_iff.mp H; obtain ⟨t276, A60, H⟩ := H
  replace H : (if t276 = true then ((spec_l1In.f a1 0 a0_0).bind fun t277 => (spec_TakeBlock.j0 k a1 (!t277) a0_0 l0_1 l0_2)) else (spec_TakeBlock.j0 k a1 true a0_0 l0_1 l0_2)) = some (r1, r2, r3, r4, r5) := H
  have A6 := aM A60; clear A60
  by_cases c7 : t276 = true
  ·subst c7
   have H1 : ((spec_l1In.f a1 0 a0_0).bind fun t277 => (spec_TakeBlock.j0 k a1 (!t277) a0_0 l0_1 l0_2)) = some (r1, r2, r3, r4, r5) := by rw [if_pos rfl] at H; exact H
   clear H; have H := H1; clear H1; replace H := Option.bind_eq_some_iff.mp H; obtain ⟨t277, A80, H⟩ := H; replace H : (spec_TakeBlock.j0 k a1 (!t277) a0_0 l0_1 l0_2) = some (r1, r2, r3, r4, r5) := H; have A8 := aM A80; clear A80; have H' := aM H; clear H; have M9 := NB274_275.out; have L9 := NB275_274.out; obtain ⟨Z10_0, Z10_1, Z10_2, Y10_0, Y10_1, Y10_2⟩ := y3 BK274.out
   go_wp2_with (first | ((with_reducible refine gate_callee (f := 20) rfl ?_); refine goesL_ (some 13) rfl rfl Try.func20 (by kernel_rfl) rfl #[.agg #[.int .i64 a0_0, .slice A0_1 l0_1.length c0_1, .slice A0_2 l0_2.length c0_2]] rfl mA ?_; (with_reducible refine (spec_GoodBuddy.calls k a0_0 _ _ l0_1 _ _ l0_2 true _ ?side1 ?side2 ?side3 ?side4 A6.out).mono ?_); (case side1 => exact cK HR0_1.out HB.out); (case side2 => exact HC0_1.out); (case side3 => exact cK HR0_2.out HB.out); (case side4 => exact HC0_2.out); rintro e w11 ⟨rfl, hb⟩; refine ⟨_, rfl, ?_⟩; replace BK274 := yK BK274.out hb; replace BK275 := yK BK275.out hb; replace HB := aM (zT (zH HB.out) hb); (try clear hb); obtain ⟨Z12_0, Z12_1, Z12_2, Y12_0, Y12_1, Y12_2⟩ := y3 BK274.out) | (go_at_call 43; (with_reducible refine (spec_l1In.calls a1 0 a0_0 t277 _ A8.out).mono ?_); rintro e w' ⟨rfl, ⟨nd, rfl⟩⟩))
   go_meet
   case rel => exact ⟨_, (!t277), (by first | rfl | (simp; done) | (simp [*]; done)), H', ⟨by first | omega | exact Nat.le_refl _⟩, ⟨yH BK274.out⟩, ⟨yH BK275.out⟩, ⟨zH HB.out⟩⟩
  ·replace c7 := Bool.eq_false_iff.mpr c7
   subst c7
   have H1 : (spec_TakeBlock.j0 k a1 true a0_0 l0_1 l0_2) = some (r1, r2, r3, r4, r5) := by rw [if_neg (show ¬ (false = true) by decide)] at H; exact H
   clear H; have H := H1; clear H1; have H' := aM H; clear H; have M13 := NB274_275.out; have L13 := NB275_274.out; obtain ⟨Z14_0, Z14_1, Z14_2, Y14_0, Y14_1, Y14_2⟩ := y3 BK274.out
   go_wp2_with (first | ((with_reducible refine gate_callee (f := 20) rfl ?_); refine goesL_ (some 13) rfl rfl Try.func20 (by kernel_rfl) rfl #[.agg #[.int .i64 a0_0, .slice A0_1 l0_1.length c0_1, .slice A0_2 l0_2.length c0_2]] rfl mA ?_; (with_reducible refine (spec_GoodBuddy.calls k a0_0 _ _ l0_1 _ _ l0_2 false _ ?side1 ?side2 ?side3 ?side4 A6.out).mono ?_); (case side1 => exact cK HR0_1.out HB.out); (case side2 => exact HC0_1.out); (case side3 => exact cK HR0_2.out HB.out); (case side4 => exact HC0_2.out); rintro e w15 ⟨rfl, hb⟩; refine ⟨_, rfl, ?_⟩; replace BK274 := yK BK274.out hb; replace BK275 := yK BK275.out hb; replace HB := aM (zT (zH HB.out) hb); (try clear hb)))
   go_meet
   case rel => exact ⟨_, (true), (by first | rfl | (simp; done) | (simp [*]; done)), H', ⟨by first | omega | exact Nat.le_refl _⟩, ⟨yH BK274.out⟩, ⟨yH BK275.out⟩, ⟨zH HB.out⟩⟩
 case rest =>
  clear HC3
  (try clear c7); (try clear Z10_0 Z10_1 Z10_2 Y10_0 Y10_1 Y10_2); (try clear Z12_0 Z12_1 Z12_2 Y12_0 Y12_1 Y12_2); (try clear Z14_0 Z14_1 Z14_2 Y14_0 Y14_1 Y14_2)
  obtain ⟨kq, x21_2, rfl, HA, HJ2, BK274, BK275, HB⟩ := hcut
  cases kq with
  | zero => exact absurd HA.out (fun h_ => by change none = some _ at h_; cases h_)
  | succ kj2 =>
   have H := HA.out; clear HA
   simp only [spec_TakeBlock.j0] at H
   by_cases c16 : x21_2 = true
   ·subst c16
    have H1 : (some (0, ([] : List (S45)), ([] : List (S45)), 0, false)) = some (r1, r2, r3, r4, r5) := by rw [if_pos rfl] at H; exact H
    clear H; have H := H1; clear H1
    simp only [Option.some.injEq, Prod.mk.injEq] at H
    obtain ⟨rfl, rfl, rfl, rfl, rfl⟩ := H; have M17 := NB275_274.out; have L17 := NB274_275.out; have Z18_0 : wc.cell? ⟨gb275, 0, none⟩ = some (.int .i64 0) := yc BK275.out 0; have Z18_1 : wc.cell? ⟨gb275, 1, none⟩ = some (.slice none 0 0) := yc BK275.out 1; have Z18_2 : wc.cell? ⟨gb275, 2, none⟩ = some (.slice none 0 0) := yc BK275.out 2; have Y18_0 := yZ BK275.out 0; have Y18_1 := yZ BK275.out 1; have Y18_2 := yZ BK275.out 2
    go_wp2
    refine bodyPost_ret (results_ctt rfl _ _ gb275 28 #[.int .i64 0, .slice none 0 0, .slice none 0 0] (0, 0) _ rfl (by refine yW ?_; refine yP (cs := #[.int .i64 0, .slice none 0 0, .slice none 0 0]) ?_ 2 _ rfl; refine yW ?_; refine yP (cs := #[.int .i64 0, .slice none 0 0, .slice none 0 0]) ?_ 1 _ rfl; refine yW ?_; refine yP (cs := #[.int .i64 0, .slice none 0 0, .slice none 0 0]) ?_ 0 _ rfl; refine yW ?_; exact BK275.out) Try.underlying28 rfl (by kernel_rfl)) rfl ?_
    exact ⟨_, _, eW, by first | exact Kd.R_nil _ _ _ _ _ | exact Kd.N_nil _ _ _ _ _ | exact Kd.V_nil _ _ _ _ _ | exact Kd.Q_nil _ _ _ _ _ | exact Kd.S_nil _ _ _ _ _, by first | exact Kd.R_nil _ _ _ _ _ | exact Kd.N_nil _ _ _ _ _ | exact Kd.V_nil _ _ _ _ _ | exact Kd.Q_nil _ _ _ _ _ | exact Kd.S_nil _ _ _ _ _, zH HB.out⟩
   ·replace c16 := Bool.eq_false_iff.mpr c16
    subst c16
    have H1 : (spec_TakeBlock.l0 kj2 a1 (-1) l0_1 (l0_1.length : Int) 0 a0_0 l0_1 l0_2) = some (r1, r2, r3, r4, r5) := by rw [if_neg (show ¬ (false = true) by decide)] at H; exact H
    clear H; have H := H1; clear H1; have H' := aM H; clear H; have M19 := NB274_275.out; have L19 := NB275_274.out; have Z20_0 : wc.cell? ⟨gb274, 0, none⟩ = some (.int .i64 a0_0) := yc BK274.out 0; have Z20_1 : wc.cell? ⟨gb274, 1, none⟩ = some (.slice A0_1 l0_1.length c0_1) := yc BK274.out 1; have Z20_2 : wc.cell? ⟨gb274, 2, none⟩ = some (.slice A0_2 l0_2.length c0_2) := yc BK274.out 2; have Y20_0 := yZ BK274.out 0; have Y20_1 := yZ BK274.out 1; have Y20_2 := yZ BK274.out 2
    go_wp2
    go_loopg [7, 26] kj2 (fun kq v7 v26 w' => ∃ (x7_2 : Int) (x26_2 : Int), v7 = .int .i64 x7_2 ∧ v26 = .int .i64 x26_2 ∧ Aside0 (spec_TakeBlock.l0 kq a1 x7_2 l0_1 (l0_1.length : Int) x26_2 a0_0 l0_1 l0_2 = some (r1, r2, r3, r4, r5)) ∧ Aside0 (kq ≤ kj2) ∧ Aside0 (w'.heap[gb274]? = some (.cells #[.int .i64 a0_0, (.slice A0_1 l0_1.length c0_1), (.slice A0_2 l0_2.length c0_2)] 28 (0, 0))) ∧ Aside0 (w'.heap[gb275]? = some (.cells #[.int .i64 0, (.slice none 0 0), (.slice none 0 0)] 28 (0, 0))) ∧ Aside0 (Below w.heap.size w w'))
    case atStart => exact ⟨((-1)), (0), (by first | rfl | (simp; done) | (simp [*]; done)), (by first | rfl | (simp; done) | (simp [*]; done)), H', ⟨Nat.le_refl _⟩, ⟨yH BK274.out⟩, ⟨yH BK275.out⟩, ⟨zH HB.out⟩⟩
    case round =>
     clear H'
     (try clear c7); (try clear c16); (try clear Z10_0 Z10_1 Z10_2 Y10_0 Y10_1 Y10_2); (try clear Z12_0 Z12_1 Z12_2 Y12_0 Y12_1 Y12_2); (try clear Z14_0 Z14_1 Z14_2 Y14_0 Y14_1 Y14_2); (try clear Z18_0 Z18_1 Z18_2 Y18_0 Y18_1 Y18_2); (try clear Z20_0 Z20_1 Z20_2 Y20_0 Y20_1 Y20_2)
     obtain ⟨x7_2, x26_2, rfl, rfl, HA, HK2, BK274, BK275, HB⟩ := hrel
     cases gk with
     | zero => exact absurd HA.out (fun h_ => by change none = some _ at h_; cases h_)
     | succ k2 =>
      have H := HA.out; clear HA
      simp only [spec_TakeBlock.l0] at H
      by_cases c21 : x26_2 < (l0_1.length : Int)
      ·rw [if_pos c21] at H
       have c21b0 : decide (x26_2 < (l0_1.length : Int)) = true := decide_eq_true c21; clear c21
       by_cases c22 : 0 ≤ x26_2
       ·rw [if_pos c22] at H
        have c22b0 : decide (0 ≤ x26_2) = true := decide_eq_true c22; clear c22
        by_cases c23 : x26_2 < (l0_1.length : Int)
        ·rw [if_pos c23] at H
         have c23b0 : decide (x26_2 < (l0_1.length : Int)) = true := decide_eq_true c23; clear c23
         by_cases c24 : ((rd_T45 l0_1 x26_2).f1) ≥ a1
         ·rw [if_pos c24] at H
          have c24b0 : decide (a1 ≤ ((rd_T45 l0_1 x26_2).f1)) = true := decide_eq_true c24; clear c24
          by_cases c25 : x7_2 < 0
          ·rw [if_pos c25] at H
           have c25b0 : decide (x7_2 < 0) = true := decide_eq_true c25; clear c25; have H' := aM H; clear H
           have p278 : 0 ≤ (x26_2 : Int) := of_decide_eq_true (by first | (with_reducible assumption) | assumption)
           have q278 : x26_2 < (l0_1.length : Int) := of_decide_eq_true (by first | (with_reducible assumption) | assumption)
           obtain ⟨ad278, e278, hx278_0, hx278_1⟩ := at_T45 HR0_1.out x26_2 p278 q278
           cases e278
           replace hx278_0 := (HB.out.cell (World.block_lt_of_cell? w _ hx278_0)).trans hx278_0; replace hx278_1 := (HB.out.cell (World.block_lt_of_cell? w _ hx278_1)).trans hx278_1; replace p278 := eq_true p278; replace q278 := eq_true q278
           try go_wp2_with (first | ((with_reducible refine gate_dst (N := 9) rfl ?_); refine bE 9 #[.int .i64 0, .int .i64 0] 45 ?_; intro gb279 hg w26 hbox hb; have BK279 := aM (hbox); have GW279 := gW hg HB.out; have GE279 := GW279; replace HB := aM (zT (zH HB.out) hb); have NB274_279 := nL BK274.out hg; have NB279_274 := nR BK274.out hg; replace BK274 := yK BK274.out hb; have NB275_279 := nL BK275.out hg; have NB279_275 := nR BK275.out hg; replace BK275 := yK BK275.out hb; clear hb hbox hg; have M27 := NB279_274.out; have L27 := NB274_279.out; have M28 := NB279_275.out; have L28 := NB275_279.out; obtain ⟨Z29_0, Z29_1, Y29_0, Y29_1⟩ := y2 BK279.out))
           have n0_ : Aside0 (((w26.setCell ⟨gb279, 0, none⟩ (.int .i64 ((rd_T45 l0_1 x26_2).f0))).setCell ⟨gb279, 1, none⟩ (.int .i64 ((rd_T45 l0_1 x26_2).f1))).heap[gb274]? = some (.cells #[.int .i64 a0_0, .slice (some ad278) l0_1.length c0_1, .slice A0_2 l0_2.length c0_2] 28 (0, 0))) := yG BK274.out
           have n1_ : Aside0 (((w26.setCell ⟨gb279, 0, none⟩ (.int .i64 ((rd_T45 l0_1 x26_2).f0))).setCell ⟨gb279, 1, none⟩ (.int .i64 ((rd_T45 l0_1 x26_2).f1))).heap[gb275]? = some (.cells #[.int .i64 0, .slice none 0 0, .slice none 0 0] 28 (0, 0))) := yG BK275.out
           have n2_ : Aside0 (((w26.setCell ⟨gb279, 0, none⟩ (.int .i64 ((rd_T45 l0_1 x26_2).f0))).setCell ⟨gb279, 1, none⟩ (.int .i64 ((rd_T45 l0_1 x26_2).f1))).heap[gb279]? = some (.cells #[.int .i64 ((rd_T45 l0_1 x26_2).f0), .int .i64 ((rd_T45 l0_1 x26_2).f1)] 45 (0, 0))) := ⟨by refine yW ?_; refine yP (cs := #[.int .i64 ((rd_T45 l0_1 x26_2).f0), .int .i64 0]) ?_ 1 _ rfl; refine yW ?_; refine yP (cs := #[.int .i64 0, .int .i64 0]) ?_ 0 _ rfl; refine yW ?_; exact BK279.out⟩
           have n3_ : Aside0 (Below w.heap.size w ((w26.setCell ⟨gb279, 0, none⟩ (.int .i64 ((rd_T45 l0_1 x26_2).f0))).setCell ⟨gb279, 1, none⟩ (.int .i64 ((rd_T45 l0_1 x26_2).f1)))) := ⟨zH HB.out⟩
           (try clear BK274); (try clear BK275); (try clear BK279); (try clear HB)
           generalize ((w26.setCell ⟨gb279, 0, none⟩ (.int .i64 ((rd_T45 l0_1 x26_2).f0))).setCell ⟨gb279, 1, none⟩ (.int .i64 ((rd_T45 l0_1 x26_2).f1))) = w30 at n0_ n1_ n2_ n3_ ⊢
           have BK274 := n0_; have BK275 := n1_; have BK279 := n2_; have HB := n3_; clear n0_ n1_ n2_ n3_; replace BK274 := aM (yD BK274.out); replace BK275 := aM (yD BK275.out); replace BK279 := aM (yD BK279.out); replace HB := aM (zD HB.out)
           refine start_ (n := 19) (S := fun w' => w'.cell? ⟨gb279, 0, none⟩ = some (.int .i64 ((rd_T45 l0_1 x26_2).f0)) ∧ w'.cell? ⟨gb279, 1, none⟩ = some (.int .i64 ((rd_T45 l0_1 x26_2).f1))) (ds := []) #[fF,fF,fF,fF,fF,fF,fF,fF,fF,fF,fF,fF,fF,fF,fF,fF,fF,fF,fF] (by kernel_rfl) rfl rfl ⟨yc BK279.out 0, yc BK279.out 1⟩ (fun hHeld => ?_); refine with_tabW spec_TakeBlock.tab7 spec_TakeBlock.bits7 (fun HT_ HW_ => ?_)
           generalize w30.drew = w31 at BK274 BK275 BK279 HB hHeld ⊢
           refine pP 0 31 HT_ ?_
           refine pP 2 33 HT_ ?_
           refine tK 1 32 HT_ HW_ hHeld ?_
           refine pP 3 34 HT_ ?_
           refine pP 4 35 HT_ ?_
           refine pP 5 36 HT_ ?_
           refine pP 6 37 HT_ ?_
           refine pP 7 38 HT_ ?_
           refine pU 8 39 HT_ ?_
           refine pU 9 40 HT_ ?_
           refine pU 10 41 HT_ ?_
           refine pU 11 42 HT_ ?_
           refine pU 12 43 HT_ ?_
           refine pU 13 44 HT_ ?_
           refine pU 14 45 HT_ ?_
           refine pU 15 46 HT_ ?_
           refine pU 16 47 HT_ ?_
           refine pP 17 48 HT_ ?_
           refine pP 18 49 HT_ ?_
           refine done_ (done_of HT_.out (by kernel_rfl)) ?_
           try go_wp2
           go_roundg k2
           case measure => have := HJ2.out; have := HK2.out; omega
           case rel => exact ⟨(x26_2), (wrap64 (x26_2 + 1)), (by first | rfl | (simp; done) | (simp [*]; done)), (by first | rfl | (simp; done) | (simp [*]; done)), H', ⟨by have := HJ2.out; have := HK2.out; omega⟩, ⟨yH BK274.out⟩, ⟨yH BK275.out⟩, ⟨zH HB.out⟩⟩
          ·rw [if_neg c25] at H
           have c25b0 : decide (x7_2 < 0) = false := decide_eq_false c25; clear c25
           by_cases c32 : 0 ≤ x7_2
           ·rw [if_pos c32] at H
            have c32b0 : decide (0 ≤ x7_2) = true := decide_eq_true c32; clear c32
            by_cases c33 : x7_2 < (l0_1.length : Int)
            ·rw [if_pos c33] at H
             have c33b0 : decide (x7_2 < (l0_1.length : Int)) = true := decide_eq_true c33; clear c33
             by_cases c34 : ((rd_T45 l0_1 x26_2).f1) < ((rd_T45 l0_1 x7_2).f1)
             ·rw [if_pos c34] at H
              have c34b0 : decide (((rd_T45 l0_1 x26_2).f1) < ((rd_T45 l0_1 x7_2).f1)) = true := decide_eq_true c34; clear c34; have H' := aM H; clear H
              have p278 : 0 ≤ (x26_2 : Int) := of_decide_eq_true (by first | (with_reducible assumption) | assumption)
              have q278 : x26_2 < (l0_1.length : Int) := of_decide_eq_true (by first | (with_reducible assumption) | assumption)
              obtain ⟨ad278, e278, hx278_0, hx278_1⟩ := at_T45 HR0_1.out x26_2 p278 q278
              cases e278
              replace hx278_0 := (HB.out.cell (World.block_lt_of_cell? w _ hx278_0)).trans hx278_0; replace hx278_1 := (HB.out.cell (World.block_lt_of_cell? w _ hx278_1)).trans hx278_1; replace p278 := eq_true p278; replace q278 := eq_true q278
              try go_wp2_with (first | ((with_reducible refine gate_dst (N := 9) rfl ?_); refine bE 9 #[.int .i64 0, .int .i64 0] 45 ?_; intro gb279 hg w35 hbox hb; have BK279 := aM (hbox); have GW279 := gW hg HB.out; have GE279 := GW279; replace HB := aM (zT (zH HB.out) hb); have NB274_279 := nL BK274.out hg; have NB279_274 := nR BK274.out hg; replace BK274 := yK BK274.out hb; have NB275_279 := nL BK275.out hg; have NB279_275 := nR BK275.out hg; replace BK275 := yK BK275.out hb; clear hb hbox hg; have M36 := NB279_274.out; have L36 := NB274_279.out; have M37 := NB279_275.out; have L37 := NB275_279.out; obtain ⟨Z38_0, Z38_1, Y38_0, Y38_1⟩ := y2 BK279.out))
              have n0_ : Aside0 (((w35.setCell ⟨gb279, 0, none⟩ (.int .i64 ((rd_T45 l0_1 x26_2).f0))).setCell ⟨gb279, 1, none⟩ (.int .i64 ((rd_T45 l0_1 x26_2).f1))).heap[gb274]? = some (.cells #[.int .i64 a0_0, .slice (some ad278) l0_1.length c0_1, .slice A0_2 l0_2.length c0_2] 28 (0, 0))) := yG BK274.out
              have n1_ : Aside0 (((w35.setCell ⟨gb279, 0, none⟩ (.int .i64 ((rd_T45 l0_1 x26_2).f0))).setCell ⟨gb279, 1, none⟩ (.int .i64 ((rd_T45 l0_1 x26_2).f1))).heap[gb275]? = some (.cells #[.int .i64 0, .slice none 0 0, .slice none 0 0] 28 (0, 0))) := yG BK275.out
              have n2_ : Aside0 (((w35.setCell ⟨gb279, 0, none⟩ (.int .i64 ((rd_T45 l0_1 x26_2).f0))).setCell ⟨gb279, 1, none⟩ (.int .i64 ((rd_T45 l0_1 x26_2).f1))).heap[gb279]? = some (.cells #[.int .i64 ((rd_T45 l0_1 x26_2).f0), .int .i64 ((rd_T45 l0_1 x26_2).f1)] 45 (0, 0))) := ⟨by refine yW ?_; refine yP (cs := #[.int .i64 ((rd_T45 l0_1 x26_2).f0), .int .i64 0]) ?_ 1 _ rfl; refine yW ?_; refine yP (cs := #[.int .i64 0, .int .i64 0]) ?_ 0 _ rfl; refine yW ?_; exact BK279.out⟩
              have n3_ : Aside0 (Below w.heap.size w ((w35.setCell ⟨gb279, 0, none⟩ (.int .i64 ((rd_T45 l0_1 x26_2).f0))).setCell ⟨gb279, 1, none⟩ (.int .i64 ((rd_T45 l0_1 x26_2).f1)))) := ⟨zH HB.out⟩
              (try clear BK274); (try clear BK275); (try clear BK279); (try clear HB)
              generalize ((w35.setCell ⟨gb279, 0, none⟩ (.int .i64 ((rd_T45 l0_1 x26_2).f0))).setCell ⟨gb279, 1, none⟩ (.int .i64 ((rd_T45 l0_1 x26_2).f1))) = w39 at n0_ n1_ n2_ n3_ ⊢
              have BK274 := n0_; have BK275 := n1_; have BK279 := n2_; have HB := n3_; clear n0_ n1_ n2_ n3_; replace BK274 := aM (yD BK274.out); replace BK275 := aM (yD BK275.out); replace BK279 := aM (yD BK279.out); replace HB := aM (zD HB.out)
              have p280 : 0 ≤ (x7_2 : Int) := of_decide_eq_true (by first | (with_reducible assumption) | assumption)
              have q280 : x7_2 < (l0_1.length : Int) := of_decide_eq_true (by first | (with_reducible assumption) | assumption)
              obtain ⟨ad280, e280, hx280_0, hx280_1⟩ := at_T45 HR0_1.out x7_2 p280 q280; have hw280_1 := hx280_1; have hw280_0 := hx280_0
              obtain rfl : ad278 = ad280 := (by injection e280)
              replace hx280_0 := (HB.out.cell (World.block_lt_of_cell? w _ hx280_0)).trans hx280_0; replace hx280_1 := (HB.out.cell (World.block_lt_of_cell? w _ hx280_1)).trans hx280_1; replace p280 := eq_true p280; replace q280 := eq_true q280
              refine start_ (n := 19) (S := fun w' => w'.cell? ⟨gb279, 0, none⟩ = some (.int .i64 ((rd_T45 l0_1 x26_2).f0)) ∧ w'.cell? ⟨gb279, 1, none⟩ = some (.int .i64 ((rd_T45 l0_1 x26_2).f1)) ∧ w'.cell? ⟨gb274, 0, none⟩ = some (.int .i64 a0_0) ∧ w'.cell? ⟨gb274, 1, none⟩ = some (.slice (some ad278) l0_1.length c0_1) ∧ w'.cell? ⟨gb274, 2, none⟩ = some (.slice A0_2 l0_2.length c0_2) ∧ w'.cell? (ad278.add ((x7_2).toNat * 2)) = some (.int .i64 ((rd_T45 l0_1 x7_2).f0)) ∧ w'.cell? ⟨(ad278.add ((x7_2).toNat * 2)).block, (ad278.add ((x7_2).toNat * 2)).off + 1, none⟩ = some (.int .i64 ((rd_T45 l0_1 x7_2).f1))) (ds := []) #[fF,fF,fF,fF,fF,fF,fF,fF,fF,fF,fF,fF,fF,fF,fF,fF,fF,fF,fF] (by kernel_rfl) rfl rfl ⟨yc BK279.out 0, yc BK279.out 1, yc BK274.out 0, yc BK274.out 1, yc BK274.out 2, ((HB.out.cell (World.block_lt_of_cell? w _ hw280_0)).trans hw280_0), ((HB.out.cell (World.block_lt_of_cell? w _ hw280_1)).trans hw280_1)⟩ (fun hHeld => ?_); refine with_tabW spec_TakeBlock.tab7 spec_TakeBlock.bits7 (fun HT_ HW_ => ?_)
              generalize w39.drew = w40 at BK274 BK275 BK279 HB hx280_0 hx280_1 hHeld ⊢
              refine pP 0 31 HT_ ?_
              refine pP 2 33 HT_ ?_
              refine tK 1 32 HT_ HW_ hHeld ?_
              refine pP 3 34 HT_ ?_
              refine pP 4 35 HT_ ?_
              refine pP 5 36 HT_ ?_
              refine pP 6 37 HT_ ?_
              refine pP 7 38 HT_ ?_
              refine pP 8 39 HT_ ?_
              refine pP 10 41 HT_ ?_
              refine pP 12 43 HT_ ?_
              refine tK 9 40 HT_ HW_ hHeld ?_
              refine tK 11 42 HT_ HW_ hHeld ?_
              refine pP 13 44 HT_ ?_
              refine pP 14 45 HT_ ?_
              refine tK 15 46 HT_ HW_ hHeld ?_
              refine pP 16 47 HT_ ?_
              refine pP 17 48 HT_ ?_
              refine pP 18 49 HT_ ?_
              refine done_ (done_of HT_.out (by kernel_rfl)) ?_
              try go_wp2
              go_roundg k2
              case measure => have := HJ2.out; have := HK2.out; omega
              case rel => exact ⟨(x26_2), (wrap64 (x26_2 + 1)), (by first | rfl | (simp; done) | (simp [*]; done)), (by first | rfl | (simp; done) | (simp [*]; done)), H', ⟨by have := HJ2.out; have := HK2.out; omega⟩, ⟨yH BK274.out⟩, ⟨yH BK275.out⟩, ⟨zH HB.out⟩⟩
             ·rw [if_neg c34] at H
              have c34b0 : decide (((rd_T45 l0_1 x26_2).f1) < ((rd_T45 l0_1 x7_2).f1)) = false := decide_eq_false c34; clear c34; have H' := aM H; clear H
              have p278 : 0 ≤ (x26_2 : Int) := of_decide_eq_true (by first | (with_reducible assumption) | assumption)
              have q278 : x26_2 < (l0_1.length : Int) := of_decide_eq_true (by first | (with_reducible assumption) | assumption)
              obtain ⟨ad278, e278, hx278_0, hx278_1⟩ := at_T45 HR0_1.out x26_2 p278 q278
              cases e278
              replace hx278_0 := (HB.out.cell (World.block_lt_of_cell? w _ hx278_0)).trans hx278_0; replace hx278_1 := (HB.out.cell (World.block_lt_of_cell? w _ hx278_1)).trans hx278_1; replace p278 := eq_true p278; replace q278 := eq_true q278
              try go_wp2_with (first | ((with_reducible refine gate_dst (N := 9) rfl ?_); refine bE 9 #[.int .i64 0, .int .i64 0] 45 ?_; intro gb279 hg w41 hbox hb; have BK279 := aM (hbox); have GW279 := gW hg HB.out; have GE279 := GW279; replace HB := aM (zT (zH HB.out) hb); have NB274_279 := nL BK274.out hg; have NB279_274 := nR BK274.out hg; replace BK274 := yK BK274.out hb; have NB275_279 := nL BK275.out hg; have NB279_275 := nR BK275.out hg; replace BK275 := yK BK275.out hb; clear hb hbox hg; have M42 := NB279_274.out; have L42 := NB274_279.out; have M43 := NB279_275.out; have L43 := NB275_279.out; obtain ⟨Z44_0, Z44_1, Y44_0, Y44_1⟩ := y2 BK279.out))
              have n0_ : Aside0 (((w41.setCell ⟨gb279, 0, none⟩ (.int .i64 ((rd_T45 l0_1 x26_2).f0))).setCell ⟨gb279, 1, none⟩ (.int .i64 ((rd_T45 l0_1 x26_2).f1))).heap[gb274]? = some (.cells #[.int .i64 a0_0, .slice (some ad278) l0_1.length c0_1, .slice A0_2 l0_2.length c0_2] 28 (0, 0))) := yG BK274.out
              have n1_ : Aside0 (((w41.setCell ⟨gb279, 0, none⟩ (.int .i64 ((rd_T45 l0_1 x26_2).f0))).setCell ⟨gb279, 1, none⟩ (.int .i64 ((rd_T45 l0_1 x26_2).f1))).heap[gb275]? = some (.cells #[.int .i64 0, .slice none 0 0, .slice none 0 0] 28 (0, 0))) := yG BK275.out
              have n2_ : Aside0 (((w41.setCell ⟨gb279, 0, none⟩ (.int .i64 ((rd_T45 l0_1 x26_2).f0))).setCell ⟨gb279, 1, none⟩ (.int .i64 ((rd_T45 l0_1 x26_2).f1))).heap[gb279]? = some (.cells #[.int .i64 ((rd_T45 l0_1 x26_2).f0), .int .i64 ((rd_T45 l0_1 x26_2).f1)] 45 (0, 0))) := ⟨by refine yW ?_; refine yP (cs := #[.int .i64 ((rd_T45 l0_1 x26_2).f0), .int .i64 0]) ?_ 1 _ rfl; refine yW ?_; refine yP (cs := #[.int .i64 0, .int .i64 0]) ?_ 0 _ rfl; refine yW ?_; exact BK279.out⟩
              have n3_ : Aside0 (Below w.heap.size w ((w41.setCell ⟨gb279, 0, none⟩ (.int .i64 ((rd_T45 l0_1 x26_2).f0))).setCell ⟨gb279, 1, none⟩ (.int .i64 ((rd_T45 l0_1 x26_2).f1)))) := ⟨zH HB.out⟩
              (try clear BK274); (try clear BK275); (try clear BK279); (try clear HB)
              generalize ((w41.setCell ⟨gb279, 0, none⟩ (.int .i64 ((rd_T45 l0_1 x26_2).f0))).setCell ⟨gb279, 1, none⟩ (.int .i64 ((rd_T45 l0_1 x26_2).f1))) = w45 at n0_ n1_ n2_ n3_ ⊢
              have BK274 := n0_; have BK275 := n1_; have BK279 := n2_; have HB := n3_; clear n0_ n1_ n2_ n3_; replace BK274 := aM (yD BK274.out); replace BK275 := aM (yD BK275.out); replace BK279 := aM (yD BK279.out); replace HB := aM (zD HB.out)
              have p280 : 0 ≤ (x7_2 : Int) := of_decide_eq_true (by first | (with_reducible assumption) | assumption)
              have q280 : x7_2 < (l0_1.length : Int) := of_decide_eq_true (by first | (with_reducible assumption) | assumption)
              obtain ⟨ad280, e280, hx280_0, hx280_1⟩ := at_T45 HR0_1.out x7_2 p280 q280; have hw280_1 := hx280_1; have hw280_0 := hx280_0
              obtain rfl : ad278 = ad280 := (by injection e280)
              replace hx280_0 := (HB.out.cell (World.block_lt_of_cell? w _ hx280_0)).trans hx280_0; replace hx280_1 := (HB.out.cell (World.block_lt_of_cell? w _ hx280_1)).trans hx280_1; replace p280 := eq_true p280; replace q280 := eq_true q280
              refine start_ (n := 19) (S := fun w' => w'.cell? ⟨gb279, 0, none⟩ = some (.int .i64 ((rd_T45 l0_1 x26_2).f0)) ∧ w'.cell? ⟨gb279, 1, none⟩ = some (.int .i64 ((rd_T45 l0_1 x26_2).f1)) ∧ w'.cell? ⟨gb274, 0, none⟩ = some (.int .i64 a0_0) ∧ w'.cell? ⟨gb274, 1, none⟩ = some (.slice (some ad278) l0_1.length c0_1) ∧ w'.cell? ⟨gb274, 2, none⟩ = some (.slice A0_2 l0_2.length c0_2) ∧ w'.cell? (ad278.add ((x7_2).toNat * 2)) = some (.int .i64 ((rd_T45 l0_1 x7_2).f0)) ∧ w'.cell? ⟨(ad278.add ((x7_2).toNat * 2)).block, (ad278.add ((x7_2).toNat * 2)).off + 1, none⟩ = some (.int .i64 ((rd_T45 l0_1 x7_2).f1))) (ds := []) #[fF,fF,fF,fF,fF,fF,fF,fF,fF,fF,fF,fF,fF,fF,fF,fF,fF,fF,fF] (by kernel_rfl) rfl rfl ⟨yc BK279.out 0, yc BK279.out 1, yc BK274.out 0, yc BK274.out 1, yc BK274.out 2, ((HB.out.cell (World.block_lt_of_cell? w _ hw280_0)).trans hw280_0), ((HB.out.cell (World.block_lt_of_cell? w _ hw280_1)).trans hw280_1)⟩ (fun hHeld => ?_); refine with_tabW spec_TakeBlock.tab7 spec_TakeBlock.bits7 (fun HT_ HW_ => ?_)
              generalize w45.drew = w46 at BK274 BK275 BK279 HB hx280_0 hx280_1 hHeld ⊢
              refine pP 0 31 HT_ ?_
              refine pP 2 33 HT_ ?_
              refine tK 1 32 HT_ HW_ hHeld ?_
              refine pP 3 34 HT_ ?_
              refine pP 4 35 HT_ ?_
              refine pP 5 36 HT_ ?_
              refine pP 6 37 HT_ ?_
              refine pP 7 38 HT_ ?_
              refine pP 8 39 HT_ ?_
              refine pP 10 41 HT_ ?_
              refine pP 12 43 HT_ ?_
              refine tK 9 40 HT_ HW_ hHeld ?_
              refine tK 11 42 HT_ HW_ hHeld ?_
              refine pP 13 44 HT_ ?_
              refine pP 14 45 HT_ ?_
              refine tK 15 46 HT_ HW_ hHeld ?_
              refine pP 16 47 HT_ ?_
              refine pP 17 48 HT_ ?_
              refine pP 18 49 HT_ ?_
              refine done_ (done_of HT_.out (by kernel_rfl)) ?_
              try go_wp2
              go_roundg k2
              case measure => have := HJ2.out; have := HK2.out; omega
              case rel => exact ⟨(x7_2), (wrap64 (x26_2 + 1)), (by first | rfl | (simp; done) | (simp [*]; done)), (by first | rfl | (simp; done) | (simp [*]; done)), H', ⟨by have := HJ2.out; have := HK2.out; omega⟩, ⟨yH BK274.out⟩, ⟨yH BK275.out⟩, ⟨zH HB.out⟩⟩
            ·rw [if_neg c33] at H
             exact absurd H (by simp)
           ·rw [if_neg c32] at H
            exact absurd H (by simp)
         ·rw [if_neg c24] at H
          have c24b0 : decide (a1 ≤ ((rd_T45 l0_1 x26_2).f1)) = false := decide_eq_false c24; clear c24; have H' := aM H; clear H
          have p278 : 0 ≤ (x26_2 : Int) := of_decide_eq_true (by first | (with_reducible assumption) | assumption)
          have q278 : x26_2 < (l0_1.length : Int) := of_decide_eq_true (by first | (with_reducible assumption) | assumption)
          obtain ⟨ad278, e278, hx278_0, hx278_1⟩ := at_T45 HR0_1.out x26_2 p278 q278
          cases e278
          replace hx278_0 := (HB.out.cell (World.block_lt_of_cell? w _ hx278_0)).trans hx278_0; replace hx278_1 := (HB.out.cell (World.block_lt_of_cell? w _ hx278_1)).trans hx278_1; replace p278 := eq_true p278; replace q278 := eq_true q278
          try go_wp2_with (first | ((with_reducible refine gate_dst (N := 9) rfl ?_); refine bE 9 #[.int .i64 0, .int .i64 0] 45 ?_; intro gb279 hg w47 hbox hb; have BK279 := aM (hbox); have GW279 := gW hg HB.out; have GE279 := GW279; replace HB := aM (zT (zH HB.out) hb); have NB274_279 := nL BK274.out hg; have NB279_274 := nR BK274.out hg; replace BK274 := yK BK274.out hb; have NB275_279 := nL BK275.out hg; have NB279_275 := nR BK275.out hg; replace BK275 := yK BK275.out hb; clear hb hbox hg; have M48 := NB279_274.out; have L48 := NB274_279.out; have M49 := NB279_275.out; have L49 := NB275_279.out; obtain ⟨Z50_0, Z50_1, Y50_0, Y50_1⟩ := y2 BK279.out))
          have n0_ : Aside0 (((w47.setCell ⟨gb279, 0, none⟩ (.int .i64 ((rd_T45 l0_1 x26_2).f0))).setCell ⟨gb279, 1, none⟩ (.int .i64 ((rd_T45 l0_1 x26_2).f1))).heap[gb274]? = some (.cells #[.int .i64 a0_0, .slice (some ad278) l0_1.length c0_1, .slice A0_2 l0_2.length c0_2] 28 (0, 0))) := yG BK274.out
          have n1_ : Aside0 (((w47.setCell ⟨gb279, 0, none⟩ (.int .i64 ((rd_T45 l0_1 x26_2).f0))).setCell ⟨gb279, 1, none⟩ (.int .i64 ((rd_T45 l0_1 x26_2).f1))).heap[gb275]? = some (.cells #[.int .i64 0, .slice none 0 0, .slice none 0 0] 28 (0, 0))) := yG BK275.out
          have n2_ : Aside0 (((w47.setCell ⟨gb279, 0, none⟩ (.int .i64 ((rd_T45 l0_1 x26_2).f0))).setCell ⟨gb279, 1, none⟩ (.int .i64 ((rd_T45 l0_1 x26_2).f1))).heap[gb279]? = some (.cells #[.int .i64 ((rd_T45 l0_1 x26_2).f0), .int .i64 ((rd_T45 l0_1 x26_2).f1)] 45 (0, 0))) := ⟨by refine yW ?_; refine yP (cs := #[.int .i64 ((rd_T45 l0_1 x26_2).f0), .int .i64 0]) ?_ 1 _ rfl; refine yW ?_; refine yP (cs := #[.int .i64 0, .int .i64 0]) ?_ 0 _ rfl; refine yW ?_; exact BK279.out⟩
          have n3_ : Aside0 (Below w.heap.size w ((w47.setCell ⟨gb279, 0, none⟩ (.int .i64 ((rd_T45 l0_1 x26_2).f0))).setCell ⟨gb279, 1, none⟩ (.int .i64 ((rd_T45 l0_1 x26_2).f1)))) := ⟨zH HB.out⟩
          (try clear BK274); (try clear BK275); (try clear BK279); (try clear HB)
          generalize ((w47.setCell ⟨gb279, 0, none⟩ (.int .i64 ((rd_T45 l0_1 x26_2).f0))).setCell ⟨gb279, 1, none⟩ (.int .i64 ((rd_T45 l0_1 x26_2).f1))) = w51 at n0_ n1_ n2_ n3_ ⊢
          have BK274 := n0_; have BK275 := n1_; have BK279 := n2_; have HB := n3_; clear n0_ n1_ n2_ n3_; replace BK274 := aM (yD BK274.out); replace BK275 := aM (yD BK275.out); replace BK279 := aM (yD BK279.out); replace HB := aM (zD HB.out)
          refine start_ (n := 19) (S := fun w' => w'.cell? ⟨gb279, 0, none⟩ = some (.int .i64 ((rd_T45 l0_1 x26_2).f0)) ∧ w'.cell? ⟨gb279, 1, none⟩ = some (.int .i64 ((rd_T45 l0_1 x26_2).f1))) (ds := []) #[fF,fF,fF,fF,fF,fF,fF,fF,fF,fF,fF,fF,fF,fF,fF,fF,fF,fF,fF] (by kernel_rfl) rfl rfl ⟨yc BK279.out 0, yc BK279.out 1⟩ (fun hHeld => ?_); refine with_tabW spec_TakeBlock.tab7 spec_TakeBlock.bits7 (fun HT_ HW_ => ?_)
          generalize w51.drew = w52 at BK274 BK275 BK279 HB hHeld ⊢
          refine pP 0 31 HT_ ?_
          refine pP 2 33 HT_ ?_
          refine tK 1 32 HT_ HW_ hHeld ?_
          refine pP 3 34 HT_ ?_
          refine pP 4 35 HT_ ?_
          refine pU 5 36 HT_ ?_
          refine pU 6 37 HT_ ?_
          refine pU 7 38 HT_ ?_
          refine pU 8 39 HT_ ?_
          refine pU 9 40 HT_ ?_
          refine pU 10 41 HT_ ?_
          refine pU 11 42 HT_ ?_
          refine pU 12 43 HT_ ?_
          refine pU 13 44 HT_ ?_
          refine pU 14 45 HT_ ?_
          refine pU 15 46 HT_ ?_
          refine pU 16 47 HT_ ?_
          refine pU 17 48 HT_ ?_
          refine pP 18 49 HT_ ?_
          refine done_ (done_of HT_.out (by kernel_rfl)) ?_
          try go_wp2
          go_roundg k2
          case measure => have := HJ2.out; have := HK2.out; omega
          case rel => exact ⟨(x7_2), (wrap64 (x26_2 + 1)), (by first | rfl | (simp; done) | (simp [*]; done)), (by first | rfl | (simp; done) | (simp [*]; done)), H', ⟨by have := HJ2.out; have := HK2.out; omega⟩, ⟨yH BK274.out⟩, ⟨yH BK275.out⟩, ⟨zH HB.out⟩⟩
        ·rw [if_neg c23] at H
         exact absurd H (by simp)
       ·rw [if_neg c22] at H
        exact absurd H (by simp)
      ·rw [if_neg c21] at H
       have c21b0 : decide (x26_2 < (l0_1.length : Int)) = false := decide_eq_false c21; clear c21
       by_cases c53 : x7_2 < 0
       ·rw [if_pos c53] at H
        have c53b0 : decide (x7_2 < 0) = true := decide_eq_true c53; clear c53
        simp only [Option.some.injEq, Prod.mk.injEq] at H
        obtain ⟨rfl, rfl, rfl, rfl, rfl⟩ := H; have M54 := NB275_274.out; have L54 := NB274_275.out; have Z55_0 : wr.cell? ⟨gb275, 0, none⟩ = some (.int .i64 0) := yc BK275.out 0; have Z55_1 : wr.cell? ⟨gb275, 1, none⟩ = some (.slice none 0 0) := yc BK275.out 1; have Z55_2 : wr.cell? ⟨gb275, 2, none⟩ = some (.slice none 0 0) := yc BK275.out 2; have Y55_0 := yZ BK275.out 0; have Y55_1 := yZ BK275.out 1; have Y55_2 := yZ BK275.out 2
        go_wp2
        refine bodyPost_ret (results_ctt rfl _ _ gb275 28 #[.int .i64 0, .slice none 0 0, .slice none 0 0] (0, 0) _ rfl (by refine yW ?_; refine yP (cs := #[.int .i64 0, .slice none 0 0, .slice none 0 0]) ?_ 2 _ rfl; refine yW ?_; refine yP (cs := #[.int .i64 0, .slice none 0 0, .slice none 0 0]) ?_ 1 _ rfl; refine yW ?_; refine yP (cs := #[.int .i64 0, .slice none 0 0, .slice none 0 0]) ?_ 0 _ rfl; refine yW ?_; exact BK275.out) Try.underlying28 rfl (by kernel_rfl)) rfl ?_
        exact ⟨_, _, eW, by first | exact Kd.R_nil _ _ _ _ _ | exact Kd.N_nil _ _ _ _ _ | exact Kd.V_nil _ _ _ _ _ | exact Kd.Q_nil _ _ _ _ _ | exact Kd.S_nil _ _ _ _ _, by first | exact Kd.R_nil _ _ _ _ _ | exact Kd.N_nil _ _ _ _ _ | exact Kd.V_nil _ _ _ _ _ | exact Kd.Q_nil _ _ _ _ _ | exact Kd.S_nil _ _ _ _ _, zH HB.out⟩
       ·rw [if_neg c53] at H
        have c53b0 : decide (x7_2 < 0) = false := decide_eq_false c53; clear c53
        by_cases c56 : 0 ≤ x7_2
        ·rw [if_pos c56] at H
         have c56b0 : decide (0 ≤ x7_2) = true := decide_eq_true c56; clear c56
         by_cases c57 : x7_2 < (l0_1.length : Int)
         ·rw [if_pos c57] at H
          have c57b0 : decide (x7_2 < (l0_1.length : Int)) = true := decide_eq_true c57; clear c57; replace H := Option.bind_eq_some_iff.mp H; obtain ⟨t283, A580, H⟩ := H; replace H : (spec_TakeBlock.l1 k2 a1 t283 a0_0 l0_1 l0_2 ((rd_T45 l0_1 x7_2).f0) ((rd_T45 l0_1 x7_2).f1)) = some (r1, r2, r3, r4, r5) := H; have A58 := aM A580; clear A580; have H' := aM H; clear H; have M59 := NB274_275.out; have L59 := NB275_274.out; have Z60_0 : wr.cell? ⟨gb274, 0, none⟩ = some (.int .i64 a0_0) := yc BK274.out 0; have Z60_1 : wr.cell? ⟨gb274, 1, none⟩ = some (.slice A0_1 l0_1.length c0_1) := yc BK274.out 1; have Z60_2 : wr.cell? ⟨gb274, 2, none⟩ = some (.slice A0_2 l0_2.length c0_2) := yc BK274.out 2; have Y60_0 := yZ BK274.out 0; have Y60_1 := yZ BK274.out 1; have Y60_2 := yZ BK274.out 2
          have p281 : 0 ≤ (x7_2 : Int) := of_decide_eq_true (by first | (with_reducible assumption) | assumption)
          have q281 : x7_2 < (l0_1.length : Int) := of_decide_eq_true (by first | (with_reducible assumption) | assumption)
          obtain ⟨ad281, e281, hx281_0, hx281_1⟩ := at_T45 HR0_1.out x7_2 p281 q281
          cases e281
          replace hx281_0 := (HB.out.cell (World.block_lt_of_cell? w _ hx281_0)).trans hx281_0; replace hx281_1 := (HB.out.cell (World.block_lt_of_cell? w _ hx281_1)).trans hx281_1; replace p281 := eq_true p281; replace q281 := eq_true q281
          go_wp2_with (first | ((with_reducible refine gate_dst (N := 10) rfl ?_); refine bE 10 #[.int .i64 0, .int .i64 0] 45 ?_; intro gb282 hg w61 hbox hb; have BK282 := aM (hbox); have GW282 := gW hg HB.out; have GE282 := GW282; replace HB := aM (zT (zH HB.out) hb); have NB274_282 := nL BK274.out hg; have NB282_274 := nR BK274.out hg; replace BK274 := yK BK274.out hb; have NB275_282 := nL BK275.out hg; have NB282_275 := nR BK275.out hg; replace BK275 := yK BK275.out hb; clear hb hbox hg; have M62 := NB282_274.out; have L62 := NB274_282.out; have M63 := NB282_275.out; have L63 := NB275_282.out; obtain ⟨Z64_0, Z64_1, Y64_0, Y64_1⟩ := y2 BK282.out; obtain ⟨Z65_0, Z65_1, Z65_2, Y65_0, Y65_1, Y65_2⟩ := y3 BK274.out) | ((with_reducible refine gate_callee (f := 30) rfl ?_); refine goesL_ (some 63) rfl rfl Try.func30 (by kernel_rfl) rfl #[.slice (some ad281) l0_1.length c0_1, .int .i64 x7_2] rfl mA ?_; (with_reducible refine (spec_l6Without.calls _ _ l0_1 x7_2 t283 _ ?side1 ?side2 A58.out).mono ?_); (case side1 => exact cB HR0_1.out (zH HB.out)); (case side2 => exact HC0_1.out); rintro e w66 ⟨v284, rfl, ho0, hb⟩; refine ⟨_, rfl, ?_⟩; have HO285 := aM (xL (Kd.R_newB ho0 (g := gb282) (o := .cells #[.int .i64 ((rd_T45 l0_1 x7_2).f0), .int .i64 ((rd_T45 l0_1 x7_2).f1)] 45 (0, 0)) (by refine yW ?_; refine yP (cs := #[.int .i64 ((rd_T45 l0_1 x7_2).f0), .int .i64 0]) ?_ 1 _ rfl; refine yW ?_; refine yP (cs := #[.int .i64 0, .int .i64 0]) ?_ 0 _ rfl; refine yW ?_; exact BK282.out)) (zZ (zH HB.out))); replace BK274 := yQ BK274.out hb; replace BK275 := yQ BK275.out hb; replace BK282 := aM (yB (g := gb282) (o := .cells #[.int .i64 ((rd_T45 l0_1 x7_2).f0), .int .i64 ((rd_T45 l0_1 x7_2).f1)] 45 (0, 0)) (by refine yW ?_; refine yP (cs := #[.int .i64 ((rd_T45 l0_1 x7_2).f0), .int .i64 0]) ?_ 1 _ rfl; refine yW ?_; refine yP (cs := #[.int .i64 0, .int .i64 0]) ?_ 0 _ rfl; refine yW ?_; exact BK282.out) hb); replace HB := aM (zT (zH HB.out) hb); (try clear hb); (try clear ho0)))
          go_loopg [11] k2 (fun kq v11 w' => ∃ (x11_3 : List (S45)) (x283001_3 : Int), Aside0 (spec_TakeBlock.l1 kq a1 x11_3 a0_0 l0_1 l0_2 ((rd_T45 l0_1 x7_2).f0) x283001_3 = some (r1, r2, r3, r4, r5)) ∧ Aside0 (kq ≤ k2) ∧ Aside0 (Kd.R k45 45 w' w.heap.size (fun k_ => k_ ≠ gb282) v11 x11_3) ∧ Aside0 (w'.heap[gb274]? = some (.cells #[.int .i64 a0_0, (.slice (some ad281) l0_1.length c0_1), (.slice A0_2 l0_2.length c0_2)] 28 (0, 0))) ∧ Aside0 (w'.heap[gb275]? = some (.cells #[.int .i64 0, (.slice none 0 0), (.slice none 0 0)] 28 (0, 0))) ∧ Aside0 (w'.heap[gb282]? = some (.cells #[.int .i64 ((rd_T45 l0_1 x7_2).f0), .int .i64 x283001_3] 45 (0, 0))) ∧ Aside0 (Below w.heap.size w w'))
          case atStart => exact ⟨(t283), ((rd_T45 l0_1 x7_2).f1), H', ⟨Nat.le_refl _⟩, ⟨xH (xM HO285.out (fun _ hk => hk.2))⟩, ⟨yH BK274.out⟩, ⟨yH BK275.out⟩, ⟨yH BK282.out⟩, ⟨zH HB.out⟩⟩
          case round =>
           clear H'
           (try clear c21); (try clear c21b0); (try clear c22); (try clear c23); (try clear c24); (try clear c24b0); (try clear c32); (try clear c33); (try clear c34); (try clear c34b0); (try clear c53); (try clear c53b0); (try clear c56); (try clear c56b0); (try clear c57); (try clear c57b0); (try clear Z44_0 Z44_1 Y44_0 Y44_1); (try clear Z50_0 Z50_1 Y50_0 Y50_1); (try clear Z55_0 Z55_1 Z55_2 Y55_0 Y55_1 Y55_2); (try clear Z60_0 Z60_1 Z60_2 Y60_0 Y60_1 Y60_2); (try clear Z64_0 Z64_1 Y64_0 Y64_1); (try clear Z65_0 Z65_1 Z65_2 Y65_0 Y65_1 Y65_2); (try clear hx278_0); (try clear hx278_1); (try clear hx280_0); (try clear hx280_1); (try clear hx281_0); (try clear hx281_1); (try clear p278); (try clear p280); (try clear p281); (try clear q278); (try clear q280); (try clear q281)
           obtain ⟨x11_3, x283001_3, HA, HK3, p0', BK274, BK275, BK282, HB⟩ := hrel
           cases gk with
           | zero => exact absurd HA.out (fun h_ => by change none = some _ at h_; cases h_)
           | succ k3 =>
            have H := HA.out; clear HA
            simp only [spec_TakeBlock.l1] at H
            by_cases c67 : x283001_3 > a1
            ·rw [if_pos c67] at H
             have c67b0 : decide (a1 < x283001_3) = true := decide_eq_true c67; clear c67; replace H := Option.bind_eq_some_iff.mp H; obtain ⟨⟨t286, t287⟩, A680, H⟩ := H
             replace H : ((spec_l6Put.f k3 x11_3 t286 t287).bind fun t288 => (spec_TakeBlock.l1 k3 a1 t288 a0_0 l0_1 l0_2 ((rd_T45 l0_1 x7_2).f0) (wrap64 (x283001_3 - 1)))) = some (r1, r2, r3, r4, r5) := H
             have A68 := aM A680; clear A680; replace H := Option.bind_eq_some_iff.mp H; obtain ⟨t288, A690, H⟩ := H; replace H : (spec_TakeBlock.l1 k3 a1 t288 a0_0 l0_1 l0_2 ((rd_T45 l0_1 x7_2).f0) (wrap64 (x283001_3 - 1))) = some (r1, r2, r3, r4, r5) := H; have A69 := aM A690; clear A690; have H' := aM H; clear H; have M70 := NB282_274.out; have L70 := NB274_282.out; have M71 := NB282_275.out; have L71 := NB275_282.out; have Z72_0 : wr.cell? ⟨gb282, 0, none⟩ = some (.int .i64 ((rd_T45 l0_1 x7_2).f0)) := yc BK282.out 0; have Z72_1 : wr.cell? ⟨gb282, 1, none⟩ = some (.int .i64 x283001_3) := yc BK282.out 1; have Y72_0 := yZ BK282.out 0; have Y72_1 := yZ BK282.out 1
             go_wp2_with (first | ((with_reducible refine gate_callee (f := 29) rfl ?_); refine goesL_ (some 74) rfl rfl Try.func29 (by kernel_rfl) rfl #[.agg #[.int .i64 ((rd_T45 l0_1 x7_2).f0), .int .i64 (wrap64 (x283001_3 - 1))]] rfl mA ?_; (with_reducible refine (spec_l6Buddy.calls ((rd_T45 l0_1 x7_2).f0) (wrap64 (x283001_3 - 1)) t286 t287 _ A68.out).mono ?_); rintro e w73 ⟨rfl, hb⟩; refine ⟨_, rfl, ?_⟩; replace p0' := q1 p0'.out hb (g := gb282) (fun _ hk => hk); replace BK274 := yQ BK274.out hb; replace BK275 := yQ BK275.out hb; replace BK282 := aM (yB (g := gb282) (o := .cells #[.int .i64 ((rd_T45 l0_1 x7_2).f0), .int .i64 (wrap64 (x283001_3 - 1))] 45 (0, 0)) (by refine yW ?_; refine yP (cs := #[.int .i64 ((rd_T45 l0_1 x7_2).f0), .int .i64 x283001_3]) ?_ 1 _ rfl; refine yW ?_; exact BK282.out) hb); replace HB := aM (zT (zH HB.out) hb); (try clear hb); obtain ⟨Ao74, co74, eo74⟩ := Kd.R_slice p0'.out; subst eo74) | ((with_reducible refine gate_callee (f := 31) rfl ?_); refine goesL_ (some 75) rfl rfl Try.func31 (by kernel_rfl) rfl #[.slice Ao74 x11_3.length co74, .agg #[.int .i64 t286, .int .i64 t287]] rfl mA ?_; (with_reducible refine (spec_l6Put.calls k3 _ _ x11_3 t286 t287 t288 _ ?side1 ?side2 A69.out).mono ?_); (case side1 => exact cS (Kd.R_reads' p0'.out).2.2); (case side2 => exact (Kd.R_reads' p0'.out).2.1); rintro e w75 ⟨v289, rfl, ho0, hb⟩; refine ⟨_, rfl, ?_⟩; have HO290 := aM (xL (Kd.R_newB (Kd.R_new' ho0 (Kd.R_lt (xH p0'.out))) (g := gb282) (o := .cells #[.int .i64 ((rd_T45 l0_1 x7_2).f0), .int .i64 (wrap64 (x283001_3 - 1))] 45 (0, 0)) (yH BK282.out)) (zZ (zH HB.out))); replace p0' := aM (Kd.R_elder' (xH p0'.out) (Kd.R_base ho0) hb); replace BK274 := yK BK274.out hb; replace BK275 := yK BK275.out hb; replace BK282 := yK BK282.out hb; replace HB := aM (zT (zH HB.out) hb); (try clear hb); (try clear ho0)))
             go_roundg k3
             case measure => have := HJ2.out; have := HK2.out; have := HK3.out; omega
             case rel => exact ⟨(t288), (wrap64 (x283001_3 - 1)), H', ⟨by have := HJ2.out; have := HK2.out; have := HK3.out; omega⟩, ⟨xH (xM HO290.out (fun _ hk => hk.2))⟩, ⟨yH BK274.out⟩, ⟨yH BK275.out⟩, ⟨yH BK282.out⟩, ⟨zH HB.out⟩⟩
            ·rw [if_neg c67] at H
             have c67b0 : decide (a1 < x283001_3) = false := decide_eq_false c67; clear c67; replace H := Option.bind_eq_some_iff.mp H; obtain ⟨t291, A760, H⟩ := H; replace H : (some (a0_0, x11_3, t291, ((rd_T45 l0_1 x7_2).f0), true)) = some (r1, r2, r3, r4, r5) := H; have A76 := aM A760; clear A760
             simp only [Option.some.injEq, Prod.mk.injEq] at H
             obtain ⟨rfl, rfl, rfl, rfl, rfl⟩ := H; have M77 := NB282_274.out; have L77 := NB274_282.out; have M78 := NB282_275.out; have L78 := NB275_282.out; have Z79_0 : wr.cell? ⟨gb282, 0, none⟩ = some (.int .i64 ((rd_T45 l0_1 x7_2).f0)) := yc BK282.out 0; have Z79_1 : wr.cell? ⟨gb282, 1, none⟩ = some (.int .i64 x283001_3) := yc BK282.out 1; have Y79_0 := yZ BK282.out 0; have Y79_1 := yZ BK282.out 1
             try go_wp2
             replace p0' := aM (xD p0'.out); replace BK274 := aM (yD BK274.out); replace BK275 := aM (yD BK275.out); replace BK282 := aM (yD BK282.out); replace HB := aM (zD HB.out)
             refine start_ (n := 13) (S := fun w' => w'.cell? ⟨gb274, 0, none⟩ = some (.int .i64 a0_0) ∧ w'.cell? ⟨gb274, 1, none⟩ = some (.slice (some ad281) l0_1.length c0_1) ∧ w'.cell? ⟨gb274, 2, none⟩ = some (.slice A0_2 l0_2.length c0_2) ∧ w'.cell? ⟨gb282, 0, none⟩ = some (.int .i64 ((rd_T45 l0_1 x7_2).f0)) ∧ w'.cell? ⟨gb282, 1, none⟩ = some (.int .i64 x283001_3)) (ds := []) #[fF,fF,fF,fF,fF,fF,fF,fF,fF,fF,fF,fF,fF] (by kernel_rfl) rfl rfl ⟨yc BK274.out 0, yc BK274.out 1, yc BK274.out 2, yc BK282.out 0, yc BK282.out 1⟩ (fun hHeld => ?_); refine with_tabW spec_TakeBlock.tab17 spec_TakeBlock.bits17 (fun HT_ HW_ => ?_)
             generalize wr.drew = w80 at p0' BK274 BK275 BK282 HB hHeld ⊢
             refine pP 0 76 HT_ ?_
             refine pP 2 78 HT_ ?_
             refine pP 3 79 HT_ ?_
             refine pP 8 84 HT_ ?_
             refine tK 1 77 HT_ HW_ hHeld ?_
             refine tK 4 80 HT_ HW_ hHeld ?_
             refine tK 5 81 HT_ HW_ hHeld ?_
             refine tK 9 85 HT_ HW_ hHeld ?_
             refine oN 6 (some 82) HT_ (fun K hK => ?_)
             refine gS Try.func31 (by kernel_rfl) rfl #[.slice A0_2 l0_2.length c0_2, .agg #[.int .i64 ((rd_T45 l0_1 x7_2).f0), .int .i64 x283001_3]] (by rfl) rfl rfl ?_
             with_reducible refine (spec_l6Put.calls k3 _ _ l0_2 ((rd_T45 l0_1 x7_2).f0) x283001_3 t291 _ ?side1 ?side2 A76.out).mono ?_
             (case side1 => exact cK HR0_2.out HB.out)
             (case side2 => exact HC0_2.out)
             rintro e w81 ⟨v292, rfl, ho0, hb⟩
             refine ⟨_, rfl, ?_⟩
             have HO293 := aM (xL (Kd.R_newB (Kd.R_new' ho0 (Kd.R_lt (xH p0'.out))) (g := gb282) (o := .cells #[.int .i64 ((rd_T45 l0_1 x7_2).f0), .int .i64 x283001_3] 45 (0, 0)) (yH BK282.out)) (zZ (zH HB.out))); replace p0' := aM (Kd.R_elder' (xH p0'.out) (Kd.R_base ho0) hb); replace BK274 := yK BK274.out hb; replace BK275 := yK BK275.out hb; replace BK282 := yK BK282.out hb; replace HB := aM (zT (zH HB.out) hb)
             (try clear hb); (try clear ho0)
             obtain ⟨Ao82, co82, eo82⟩ := Kd.R_slice HO293.out
             (first | subst eo82 | obtain ⟨rfl, rfl⟩ := eI eo82)
             obtain ⟨Ao83, co83, eo83⟩ := Kd.R_slice p0'.out
             (first | subst eo83 | obtain ⟨rfl, rfl⟩ := eI eo83)
             refine hK.out _ _ ⟨yc BK274.out 0, yc BK274.out 1, yc BK274.out 2, yc BK282.out 0, yc BK282.out 1⟩ (fun hHeld => ?_)
             clear hK K; refine nN 82 ?_
             refine pP 7 83 HT_ ?_
             refine oN 10 none HT_ (fun K hK => ?_)
             have hs84 : w81.cell? ⟨gb275, 0, none⟩ = some (.int .i64 0) := yc BK275.out 0; have hfs84 := yZ BK275.out 0; have hns84_0 := NB274_275.out; have hns84_2 := NB282_275.out; have hms84_0 := NB275_274.out; have hms84_2 := NB275_282.out; have hs85 : w81.cell? ⟨gb275, 1, none⟩ = some (.slice none 0 0) := yc BK275.out 1; have hfs85 := yZ BK275.out 1; have hns85_0 := NB274_275.out; have hns85_2 := NB282_275.out; have hms85_0 := NB275_274.out; have hms85_2 := NB275_282.out; have hs86 : w81.cell? ⟨gb275, 2, none⟩ = some (.slice none 0 0) := yc BK275.out 2; have hfs86 := yZ BK275.out 2; have hns86_0 := NB274_275.out; have hns86_2 := NB282_275.out; have hms86_0 := NB275_274.out; have hms86_2 := NB275_282.out
             refine skip_ (w1 := ?_) (by rfl) rfl ?_ ?_
             rotate_left
             ·go_simp
              rfl
             refine hK.out _ _ ⟨((cell_far (p := ⟨gb275, _, none⟩) NB274_275.out _).trans (((cell_far (p := ⟨gb275, _, none⟩) NB274_275.out _).trans (((cell_far (p := ⟨gb275, _, none⟩) NB274_275.out _).trans (hHeld.1)))))), ((cell_far (p := ⟨gb275, _, none⟩) NB274_275.out _).trans (((cell_far (p := ⟨gb275, _, none⟩) NB274_275.out _).trans (((cell_far (p := ⟨gb275, _, none⟩) NB274_275.out _).trans (hHeld.2.1)))))), ((cell_far (p := ⟨gb275, _, none⟩) NB274_275.out _).trans (((cell_far (p := ⟨gb275, _, none⟩) NB274_275.out _).trans (((cell_far (p := ⟨gb275, _, none⟩) NB274_275.out _).trans (hHeld.2.2.1)))))), ((cell_far (p := ⟨gb275, _, none⟩) NB282_275.out _).trans (((cell_far (p := ⟨gb275, _, none⟩) NB282_275.out _).trans (((cell_far (p := ⟨gb275, _, none⟩) NB282_275.out _).trans (hHeld.2.2.2.1)))))), ((cell_far (p := ⟨gb275, _, none⟩) NB282_275.out _).trans (((cell_far (p := ⟨gb275, _, none⟩) NB282_275.out _).trans (((cell_far (p := ⟨gb275, _, none⟩) NB282_275.out _).trans (hHeld.2.2.2.2))))))⟩ (fun hHeld => ?_)
             clear hK K
             refine pP 11 5 HT_ ?_
             refine pP 12 6 HT_ ?_
             refine done_ (done_of HT_.out (by kernel_rfl)) ?_
             try go_wp2
             refine bodyPost_ret (results_ctt rfl _ _ gb275 28 #[.int .i64 a0_0, .slice Ao83 x11_3.length co83, .slice Ao82 t291.length co82] (0, 0) _ rfl (by refine yW ?_; refine yP (cs := #[.int .i64 a0_0, .slice Ao83 x11_3.length co83, .slice none 0 0]) ?_ 2 _ rfl; refine yW ?_; refine yP (cs := #[.int .i64 a0_0, .slice none 0 0, .slice none 0 0]) ?_ 1 _ rfl; refine yW ?_; refine yP (cs := #[.int .i64 0, .slice none 0 0, .slice none 0 0]) ?_ 0 _ rfl; refine yW ?_; exact BK275.out) Try.underlying28 rfl (by kernel_rfl)) rfl ?_
             exact ⟨_, _, eW, xH (xM (xF (p := ⟨gb275, 2, none⟩) (xF (p := ⟨gb275, 1, none⟩) (xF (p := ⟨gb275, 0, none⟩) (xT p0'.out BK275.out (by decide)) (fun _ hk => hk.2) (.int .i64 a0_0)) (fun _ hk => hk.2) (.slice Ao83 x11_3.length co83)) (fun _ hk => hk.2) (.slice Ao82 t291.length co82)) (fun _ hk => hk.1.2)), xH (xM (xF (p := ⟨gb275, 2, none⟩) (xF (p := ⟨gb275, 1, none⟩) (xF (p := ⟨gb275, 0, none⟩) (xT HO293.out BK275.out (by decide)) (fun _ hk => hk.2) (.int .i64 a0_0)) (fun _ hk => hk.2) (.slice Ao83 x11_3.length co83)) (fun _ hk => hk.2) (.slice Ao82 t291.length co82)) (fun _ hk => hk.1.1.2)), zH HB.out⟩
         ·rw [if_neg c57] at H
          exact absurd H (by simp)
        ·rw [if_neg c56] at H
         exact absurd H (by simp)

end Go.Proofs.Ytbjcioihomeikaa.PFnBuddies
