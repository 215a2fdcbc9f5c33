/- The walks of FnExactTakeExact: Go's calls come to what the Lean functions beside them say; no condition. -/
import Derived.Test.YtfhfaeeokibhaaaQFnExactTakeExactx0
import Derived.Test.YtfhfaeeokibhaaaQFnExactTakeExactx2
import Derived.Test.YtfhfaeeokibhaaaQFnExactTakeExactx3
import Derived.Test.YtfhfaeeokibhaaaQFnExactTakeExactx6
import Derived.Test.YtfhfaeeokibhaaaQFnExactTakeExactx11
namespace Go.Proofs.Ytfhfaeeokibhaaa.PFnExactTakeExact
open Go.RowKit Go.Proofs.YtfhfaeeokibhaaaW.PrintWords Go.Proofs.YtfhfaeeokibhaaaW.PrintLast Go.Proofs.YtfhfaeeokibhaaaW.PrintMore
attribute [local go_sem] max2_int min2_int max_two min_two max_three min_three max_four min_four   -- for this text's walks alone
set_option linter.unusedVariables false
set_option linter.unusedSimpArgs false
set_option maxRecDepth 100000

/-! ### laws_FnExactTakeExact: function 9 -/
mutual
def laws_FnExactTakeExact.j0 : Nat → Bool → Bool → Bool → Int → List (S47) → List (S47) → Int → Int → Int → List (S49) → List (S49) → Int → List (S49) → List (S49) → Int → List (S49) → List (S49) → Option (Bool)
 | 0, _, _, _, _, _, _, _, _, _, _, _, _, _, _, _, _, _ => none
 | k + 1, x7, x10, x46, x339000, x339001, x339002, x340000, x340001, x359000, x359001, x359002, x367000, x367001, x367002, x378000, x378001, x378002 => if x46 = true then (some false) else ((laws_toFree.f k x339000 x339001 x339002).bind fun bt379 => ((laws_eqFree.f k x367000 x367001 x367002 bt379.1 bt379.2.1 bt379.2.2).bind fun t386 => (if t386 = true then ((laws_markFree.f k x367000 x367001 x367002 1).bind fun bt387 => (if bt387.1 < 0 then (laws_FnExactTakeExact.j1 k x7 true x339000 x339001 x339002 x340000 x340001 x359000 x359001 x359002 x378000 x378001 x378002) else ((laws_eqFree.f k x378000 x378001 x378002 x359000 x359001 x359002).bind fun t390 => (if t390 = true then (laws_FnExactTakeExact.j1 k x7 (x10 != x7) x339000 x339001 x339002 x340000 x340001 x359000 x359001 x359002 x378000 x378001 x378002) else (laws_FnExactTakeExact.j1 k x7 true x339000 x339001 x339002 x340000 x340001 x359000 x359001 x359002 x378000 x378001 x378002))))) else (some false))))
def laws_FnExactTakeExact.j1 : Nat → Bool → Bool → Int → List (S47) → List (S47) → Int → Int → Int → List (S49) → List (S49) → Int → List (S49) → List (S49) → Option (Bool)
 | 0, _, _, _, _, _, _, _, _, _, _, _, _, _ => none
 | k + 1, x7, x67, x339000, x339001, x339002, x340000, x340001, x359000, x359001, x359002, x378000, x378001, x378002 => if x67 = true then (some false) else ((laws_markFree.f k x378000 x378001 x378002 1).bind fun bt391 => ((laws_heldFree.f k x378000 bt391.2.1 bt391.2.2 1).bind fun t394 => (if t394 < 0 then (some false) else (if t394 = bt391.1 then ((laws_toFree.f k x339000 x339001 x339002).bind fun bt395 => ((laws_toExtent.f x340000 x340001).bind fun bt402 => ((impl_TakeExact.f k bt395.1 bt395.2.1 bt395.2.2 bt402.1 bt402.2).bind fun bt404 => ((laws_eqFree.f k bt404.1 bt404.2.1 bt404.2.2.1 x359000 x359001 x359002).bind fun t413 => (if t413 = true then (laws_FnExactTakeExact.j2 k bt391.1 (bt404.2.2.2 != x7) x378000 bt391.2.1 bt391.2.2) else (laws_FnExactTakeExact.j2 k bt391.1 true x378000 bt391.2.1 bt391.2.2)))))) else (some false)))))
def laws_FnExactTakeExact.j2 : Nat → Int → Bool → Int → List (S49) → List (S49) → Option (Bool)
 | 0, _, _, _, _, _ => none
 | k + 1, x12, x95, x378000, x378001, x378002 => if x95 = true then (some false) else ((laws_heldFree.f k x378000 x378001 x378002 1).bind fun t414 => (if t414 < 0 then (some false) else (if t414 = x12 then (some true) else (some false))))
end
def laws_FnExactTakeExact.f (k : Nat) (a0_0 : Int) (l0_1 : List (S47)) (l0_2 : List (S47)) (a1_0 : Int) (a1_1 : Int) : Option (Bool) := (laws_szFree.f a0_0 l0_1 l0_2 1048576).bind fun t340 => (if t340 < 0 then (some true) else ((laws_toFree.f k a0_0 l0_1 l0_2).bind fun bt341 => ((laws_toExtent.f a1_0 a1_1).bind fun bt348 => ((spec_TakeExact.f k bt341.1 bt341.2.1 bt341.2.2 bt348.1 bt348.2).bind fun bt350 => ((laws_toFree.f k a0_0 l0_1 l0_2).bind fun bt359 => ((laws_toExtent.f a1_0 a1_1).bind fun bt367 => ((impl_TakeExact.f k bt359.1 bt359.2.1 bt359.2.2 bt367.1 bt367.2).bind fun bt369 => ((laws_eqFree.f k bt369.1 bt369.2.1 bt369.2.2.1 bt350.1 bt350.2.1 bt350.2.2.1).bind fun t378 => (if t378 = true then (laws_FnExactTakeExact.j0 k bt350.2.2.2 bt369.2.2.2 (bt369.2.2.2 != bt350.2.2.2) a0_0 l0_1 l0_2 a1_0 a1_1 bt350.1 bt350.2.1 bt350.2.2.1 bt359.1 bt359.2.1 bt359.2.2 bt369.1 bt369.2.1 bt369.2.2.1) else (laws_FnExactTakeExact.j0 k bt350.2.2.2 bt369.2.2.2 true a0_0 l0_1 l0_2 a1_0 a1_1 bt350.1 bt350.2.1 bt350.2.2.1 bt359.1 bt359.2.1 bt359.2.2 bt369.1 bt369.2.1 bt369.2.2.1))))))))))
theorem laws_FnExactTakeExact.mono_l : ∀ k, (∀ y0 y1 y2 y3 y4 y5 y6 y7 y8 y9 y10 y11 y12 y13 y14 y15 y16, LeO (laws_FnExactTakeExact.j0 k y0 y1 y2 y3 y4 y5 y6 y7 y8 y9 y10 y11 y12 y13 y14 y15 y16) (laws_FnExactTakeExact.j0 (k + 1) y0 y1 y2 y3 y4 y5 y6 y7 y8 y9 y10 y11 y12 y13 y14 y15 y16)) ∧ (∀ y0 y1 y2 y3 y4 y5 y6 y7 y8 y9 y10 y11 y12, LeO (laws_FnExactTakeExact.j1 k y0 y1 y2 y3 y4 y5 y6 y7 y8 y9 y10 y11 y12) (laws_FnExactTakeExact.j1 (k + 1) y0 y1 y2 y3 y4 y5 y6 y7 y8 y9 y10 y11 y12)) ∧ (∀ y0 y1 y2 y3 y4, LeO (laws_FnExactTakeExact.j2 k y0 y1 y2 y3 y4) (laws_FnExactTakeExact.j2 (k + 1) y0 y1 y2 y3 y4))
 | 0 => ⟨fun _ _ _ _ _ _ _ _ _ _ _ _ _ _ _ _ _ r h => by simp [laws_FnExactTakeExact.j0] at h, fun _ _ _ _ _ _ _ _ _ _ _ _ _ r h => by simp [laws_FnExactTakeExact.j1] at h, fun _ _ _ _ _ r h => by simp [laws_FnExactTakeExact.j2] at h⟩
 | k + 1 => by
  obtain ⟨ih0, ih1, ih2⟩ := laws_FnExactTakeExact.mono_l k
  refine ⟨?_, ?_, ?_⟩
  ·intro y0 y1 y2 y3 y4 y5 y6 y7 y8 y9 y10 y11 y12 y13 y14 y15 y16
   unfold laws_FnExactTakeExact.j0
   repeat' first
   | (with_reducible exact ih0 _ _ _ _ _ _ _ _ _ _ _ _ _ _ _ _ _)
   | (with_reducible exact ih1 _ _ _ _ _ _ _ _ _ _ _ _ _)
   | (with_reducible exact ih2 _ _ _ _ _)
   | (with_reducible exact impl_TakeExact.mono _ _ _ _ _ _)
   | (with_reducible exact laws_eqFree.mono _ _ _ _ _ _ _)
   | (with_reducible exact laws_heldFree.mono _ _ _ _ _)
   | (with_reducible exact laws_markFree.mono _ _ _ _ _)
   | (with_reducible exact laws_toFree.mono _ _ _ _)
   | (with_reducible exact spec_TakeExact.mono _ _ _ _ _ _)
   | (with_reducible exact LeO.refl _)
   | (with_reducible exact LeO.none _)
   | (with_reducible refine LeO.ite ?_ ?_)
   | (with_reducible refine LeO.bind ?_ (fun _ => ?_))
   | exact ih0 _ _ _ _ _ _ _ _ _ _ _ _ _ _ _ _ _
   | exact ih1 _ _ _ _ _ _ _ _ _ _ _ _ _
   | exact ih2 _ _ _ _ _
   | exact impl_TakeExact.mono _ _ _ _ _ _
   | exact laws_eqFree.mono _ _ _ _ _ _ _
   | exact laws_heldFree.mono _ _ _ _ _
   | exact laws_markFree.mono _ _ _ _ _
   | exact laws_toFree.mono _ _ _ _
   | exact spec_TakeExact.mono _ _ _ _ _ _
   | exact LeO.none _
   | refine LeO.ite ?_ ?_
   | refine LeO.bind ?_ (fun _ => ?_)
  ·intro y0 y1 y2 y3 y4 y5 y6 y7 y8 y9 y10 y11 y12
   unfold laws_FnExactTakeExact.j1
   repeat' first
   | (with_reducible exact ih0 _ _ _ _ _ _ _ _ _ _ _ _ _ _ _ _ _)
   | (with_reducible exact ih1 _ _ _ _ _ _ _ _ _ _ _ _ _)
   | (with_reducible exact ih2 _ _ _ _ _)
   | (with_reducible exact impl_TakeExact.mono _ _ _ _ _ _)
   | (with_reducible exact laws_eqFree.mono _ _ _ _ _ _ _)
   | (with_reducible exact laws_heldFree.mono _ _ _ _ _)
   | (with_reducible exact laws_markFree.mono _ _ _ _ _)
   | (with_reducible exact laws_toFree.mono _ _ _ _)
   | (with_reducible exact spec_TakeExact.mono _ _ _ _ _ _)
   | (with_reducible exact LeO.refl _)
   | (with_reducible exact LeO.none _)
   | (with_reducible refine LeO.ite ?_ ?_)
   | (with_reducible refine LeO.bind ?_ (fun _ => ?_))
   | exact ih0 _ _ _ _ _ _ _ _ _ _ _ _ _ _ _ _ _
   | exact ih1 _ _ _ _ _ _ _ _ _ _ _ _ _
   | exact ih2 _ _ _ _ _
   | exact impl_TakeExact.mono _ _ _ _ _ _
   | exact laws_eqFree.mono _ _ _ _ _ _ _
   | exact laws_heldFree.mono _ _ _ _ _
   | exact laws_markFree.mono _ _ _ _ _
   | exact laws_toFree.mono _ _ _ _
   | exact spec_TakeExact.mono _ _ _ _ _ _
   | exact LeO.none _
   | refine LeO.ite ?_ ?_
   | refine LeO.bind ?_ (fun _ => ?_)
  ·intro y0 y1 y2 y3 y4
   unfold laws_FnExactTakeExact.j2
   repeat' first
   | (with_reducible exact ih0 _ _ _ _ _ _ _ _ _ _ _ _ _ _ _ _ _)
   | (with_reducible exact ih1 _ _ _ _ _ _ _ _ _ _ _ _ _)
   | (with_reducible exact ih2 _ _ _ _ _)
   | (with_reducible exact impl_TakeExact.mono _ _ _ _ _ _)
   | (with_reducible exact laws_eqFree.mono _ _ _ _ _ _ _)
   | (with_reducible exact laws_heldFree.mono _ _ _ _ _)
   | (with_reducible exact laws_markFree.mono _ _ _ _ _)
   | (with_reducible exact laws_toFree.mono _ _ _ _)
   | (with_reducible exact spec_TakeExact.mono _ _ _ _ _ _)
   | (with_reducible exact LeO.refl _)
   | (with_reducible exact LeO.none _)
   | (with_reducible refine LeO.ite ?_ ?_)
   | (with_reducible refine LeO.bind ?_ (fun _ => ?_))
   | exact ih0 _ _ _ _ _ _ _ _ _ _ _ _ _ _ _ _ _
   | exact ih1 _ _ _ _ _ _ _ _ _ _ _ _ _
   | exact ih2 _ _ _ _ _
   | exact impl_TakeExact.mono _ _ _ _ _ _
   | exact laws_eqFree.mono _ _ _ _ _ _ _
   | exact laws_heldFree.mono _ _ _ _ _
   | exact laws_markFree.mono _ _ _ _ _
   | exact laws_toFree.mono _ _ _ _
   | exact spec_TakeExact.mono _ _ _ _ _ _
   | exact LeO.none _
   | refine LeO.ite ?_ ?_
   | refine LeO.bind ?_ (fun _ => ?_)
theorem laws_FnExactTakeExact.mono : ∀ a0 a1 a2 a3 a4 k, LeO (laws_FnExactTakeExact.f k a0 a1 a2 a3 a4) (laws_FnExactTakeExact.f (k + 1) a0 a1 a2 a3 a4) := by
 intro a0 a1 a2 a3 a4 k
 obtain ⟨ih0, ih1, ih2⟩ := laws_FnExactTakeExact.mono_l k
 unfold laws_FnExactTakeExact.f
 repeat' first
   | (with_reducible exact ih0 _ _ _ _ _ _ _ _ _ _ _ _ _ _ _ _ _)
   | (with_reducible exact ih1 _ _ _ _ _ _ _ _ _ _ _ _ _)
   | (with_reducible exact ih2 _ _ _ _ _)
   | (with_reducible exact impl_TakeExact.mono _ _ _ _ _ _)
   | (with_reducible exact laws_eqFree.mono _ _ _ _ _ _ _)
   | (with_reducible exact laws_heldFree.mono _ _ _ _ _)
   | (with_reducible exact laws_markFree.mono _ _ _ _ _)
   | (with_reducible exact laws_toFree.mono _ _ _ _)
   | (with_reducible exact spec_TakeExact.mono _ _ _ _ _ _)
   | (with_reducible exact LeO.refl _)
   | (with_reducible exact LeO.none _)
   | (with_reducible refine LeO.ite ?_ ?_)
   | (with_reducible refine LeO.bind ?_ (fun _ => ?_))
   | exact ih0 _ _ _ _ _ _ _ _ _ _ _ _ _ _ _ _ _
   | exact ih1 _ _ _ _ _ _ _ _ _ _ _ _ _
   | exact ih2 _ _ _ _ _
   | exact impl_TakeExact.mono _ _ _ _ _ _
   | exact laws_eqFree.mono _ _ _ _ _ _ _
   | exact laws_heldFree.mono _ _ _ _ _
   | exact laws_markFree.mono _ _ _ _ _
   | exact laws_toFree.mono _ _ _ _
   | exact spec_TakeExact.mono _ _ _ _ _ _
   | exact LeO.none _
   | refine LeO.ite ?_ ?_
   | refine LeO.bind ?_ (fun _ => ?_)
def laws_FnExactTakeExact.T5 : Bool × List (List Nat × List Nat) := (true, [([], []), ([0], [0]), ([], []), ([2, 1], [2]), ([1, 3, 3], [1, 3]), ([4], [4]), ([5], [5]), ([5], [5]), ([], []), ([8, 6, 4, 0, 1, 2, 3, 4, 5, 6, 8], [6, 8]), ([7, 9, 0, 1, 2, 3, 4, 5, 6, 7, 8, 9], [7])])
def laws_FnExactTakeExact.B5 : List Nat := [0, 1, 0, 7, 15, 31, 63, 63, 0, 383, 1023]
theorem laws_FnExactTakeExact.tab5 : rtab .any (opsOf Try.f9 5) = laws_FnExactTakeExact.T5 := by kernel_rfl
theorem laws_FnExactTakeExact.bits5 : waitsOk laws_FnExactTakeExact.T5.2 laws_FnExactTakeExact.B5 = true := by kernel_rfl
def laws_FnExactTakeExact.T7 : Bool × List (List Nat × List Nat) := (true, [([], []), ([], []), ([1], [1]), ([0, 2, 2], [0, 2]), ([3], [3]), ([4], [4]), ([4], [4]), ([], []), ([7, 5, 3, 0, 1, 2, 3, 4, 5, 7], [5, 7]), ([6, 8, 0, 1, 2, 3, 4, 5, 6, 7, 8], [6])])
def laws_FnExactTakeExact.B7 : List Nat := [0, 0, 2, 7, 15, 31, 31, 0, 191, 511]
theorem laws_FnExactTakeExact.tab7 : rtab .any (opsOf Try.f9 7) = laws_FnExactTakeExact.T7 := by kernel_rfl
theorem laws_FnExactTakeExact.bits7 : waitsOk laws_FnExactTakeExact.T7.2 laws_FnExactTakeExact.B7 = true := by kernel_rfl
def laws_FnExactTakeExact.T24 : Bool × List (List Nat × List Nat) := (true, [([], []), ([0], [0]), ([], []), ([2, 1], [2]), ([1, 3, 3], [1, 3]), ([4], [4]), ([5], [5]), ([5], [5]), ([], []), ([8, 6, 4, 0, 1, 2, 3, 4, 5, 6, 8], [6, 8]), ([7, 9, 0, 1, 2, 3, 4, 5, 6, 7, 8, 9], [7])])
def laws_FnExactTakeExact.B24 : List Nat := [0, 1, 0, 7, 15, 31, 63, 63, 0, 383, 1023]
theorem laws_FnExactTakeExact.tab24 : rtab .any (opsOf Try.f9 24) = laws_FnExactTakeExact.T24 := by kernel_rfl
theorem laws_FnExactTakeExact.bits24 : waitsOk laws_FnExactTakeExact.T24.2 laws_FnExactTakeExact.B24 = true := by kernel_rfl
set_option maxHeartbeats 8000000 in
set_option maxRecDepth 100000 in
theorem laws_FnExactTakeExact.calls (k : Nat) (a0_0 : Int) (A0_1 : Option Addr) (c0_1 : Nat) (l0_1 : List (S47)) (A0_2 : Option Addr) (c0_2 : Nat) (l0_2 : List (S47)) (a1_0 : Int) (a1_1 : Int) (r : Bool) (w : World) (hr0_1 : Kd.C k47 w A0_1 l0_1.length l0_1) (hc0_1 : l0_1.length ≤ c0_1) (hr0_2 : Kd.C k47 w A0_2 l0_2.length l0_2) (hc0_2 : l0_2.length ≤ c0_2) (h : laws_FnExactTakeExact.f k a0_0 l0_1 l0_2 a1_0 a1_1 = some r) (hr_ : r = true := by rfl) :
  Calls Try.prog 9 #[.agg #[.int .i64 a0_0, .slice A0_1 l0_1.length c0_1, .slice A0_2 l0_2.length c0_2], .agg #[.int .i64 a1_0, .int .i64 a1_1]] w fun e w' => e = .returned (.bool r) ∧ Below w.heap.size w w' := by
 have HR_ := aM hr_
 clear hr_
 have hu32 := Try.underlying32
 have hu47 := Try.underlying47
 have hu24 := Try.underlying24
 have HR0_1 := aM hr0_1
 have HC0_1 := aM hc0_1
 clear hr0_1 hc0_1
 have HR0_2 := aM hr0_2
 have HC0_2 := aM hc0_2
 clear hr0_2 hc0_2
 have HB := aM (Below.refl w.heap.size w)
 have H : ((laws_szFree.f a0_0 l0_1 l0_2 1048576).bind fun t340 => (if t340 < 0 then (some true) else ((laws_toFree.f k a0_0 l0_1 l0_2).bind fun bt341 => ((laws_toExtent.f a1_0 a1_1).bind fun bt348 => ((spec_TakeExact.f k bt341.1 bt341.2.1 bt341.2.2 bt348.1 bt348.2).bind fun bt350 => ((laws_toFree.f k a0_0 l0_1 l0_2).bind fun bt359 => ((laws_toExtent.f a1_0 a1_1).bind fun bt367 => ((impl_TakeExact.f k bt359.1 bt359.2.1 bt359.2.2 bt367.1 bt367.2).bind fun bt369 => ((laws_eqFree.f k bt369.1 bt369.2.1 bt369.2.2.1 bt350.1 bt350.2.1 bt350.2.2.1).bind fun t378 => (if t378 = true then (laws_FnExactTakeExact.j0 k bt350.2.2.2 bt369.2.2.2 (bt369.2.2.2 != bt350.2.2.2) a0_0 l0_1 l0_2 a1_0 a1_1 bt350.1 bt350.2.1 bt350.2.2.1 bt359.1 bt359.2.1 bt359.2.2 bt369.1 bt369.2.1 bt369.2.2.1) else (laws_FnExactTakeExact.j0 k bt350.2.2.2 bt369.2.2.2 true a0_0 l0_1 l0_2 a1_0 a1_1 bt350.1 bt350.2.1 bt350.2.2.1 bt359.1 bt359.2.1 bt359.2.2 bt369.1 bt369.2.1 bt369.2.2.1))))))))))) = some r := h
 clear h
 replace H := Option.bind_eq_some_iff.mp H
 obtain ⟨t340, A30, H⟩ := H
 replace H : (if t340 < 0 then (some true) else ((laws_toFree.f k a0_0 l0_1 l0_2).bind fun bt341 => ((laws_toExtent.f a1_0 a1_1).bind fun bt348 => ((spec_TakeExact.f k bt341.1 bt341.2.1 bt341.2.2 bt348.1 bt348.2).bind fun bt350 => ((laws_toFree.f k a0_0 l0_1 l0_2).bind fun bt359 => ((laws_toExtent.f a1_0 a1_1).bind fun bt367 => ((impl_TakeExact.f k bt359.1 bt359.2.1 bt359.2.2 bt367.1 bt367.2).bind fun bt369 => ((laws_eqFree.f k bt369.1 bt369.2.1 bt369.2.2.1 bt350.1 bt350.2.1 bt350.2.2.1).bind fun t378 => (if t378 = true then (laws_FnExactTakeExact.j0 k bt350.2.2.2 bt369.2.2.2 (bt369.2.2.2 != bt350.2.2.2) a0_0 l0_1 l0_2 a1_0 a1_1 bt350.1 bt350.2.1 bt350.2.2.1 bt359.1 bt359.2.1 bt359.2.2 bt369.1 bt369.2.1 bt369.2.2.1) else (laws_FnExactTakeExact.j0 k bt350.2.2.2 bt369.2.2.2 true a0_0 l0_1 l0_2 a1_0 a1_1 bt350.1 bt350.2.1 bt350.2.2.1 bt359.1 bt359.2.1 bt359.2.2 bt369.1 bt369.2.1 bt369.2.2.1)))))))))) = some r := H
 have A3 := aM A30
 clear A30
 by_cases c4 : t340 < 0
 ·rw [if_pos c4] at H
  have c4b0 : decide (t340 < 0) = true := decide_eq_true c4
  clear c4
  obtain rfl := Option.some.inj H
  go_enter Try.func9, Try.ntmps9
  go_wp2_with (first | ((with_reducible refine gate_dst (N := 2) rfl ?_); refine box_event ?hg (N := 2) ?hd (cs := #[.int .i64 a0_0, .slice A0_1 l0_1.length c0_1, .slice A0_2 l0_2.length c0_2]) (t := 32) ?hr ?_; (case hd => rfl); (case hg => rfl); (case hr => first | (go_simp; done) | (go_simp; rfl)); intro gb338 hg w5 hbox hb; have BK338 := aM (hbox); have GW338 := aM ((by rw [hg]; exact (zZ (zH HB.out)) : w.heap.size ≤ gb338)); have GE338 := aM ((by rw [hg]; exact (zZ (zH HB.out)) : w.heap.size ≤ gb338)); replace HB := aM (zT (zH HB.out) hb); clear hb hbox hg) | ((with_reducible refine gate_dst (N := 3) rfl ?_); refine box_event ?hg (N := 3) ?hd (cs := #[.int .i64 a1_0, .int .i64 a1_1]) (t := 47) ?hr ?_; (case hd => rfl); (case hg => rfl); (case hr => first | (go_simp; done) | (go_simp; rfl)); intro gb339 hg w6 hbox hb; have BK339 := aM (hbox); have GW339 := aM ((by rw [hg]; exact (zZ (zH HB.out)) : w.heap.size ≤ gb339)); have GE339 := aM ((by rw [hg]; exact (zZ (zH HB.out)) : w.heap.size ≤ gb339)); replace HB := aM (zT (zH HB.out) hb); have NB338_339 := nL BK338.out hg; have NB339_338 := nR BK338.out hg; replace BK338 := yK BK338.out hb; clear hb hbox hg; have hnb7 := NB338_339.out; have hnc7 := NB339_338.out; have hcz8_0 : w6.cell? ⟨gb338, 0, none⟩ = some (.int .i64 a0_0) := yc BK338.out 0; have hcz8_1 : w6.cell? ⟨gb338, 1, none⟩ = some (.slice A0_1 l0_1.length c0_1) := yc BK338.out 1; have hcz8_2 : w6.cell? ⟨gb338, 2, none⟩ = some (.slice A0_2 l0_2.length c0_2) := yc BK338.out 2; have hfz8_0 := yZ BK338.out 0; have hfz8_1 := yZ BK338.out 1; have hfz8_2 := yZ BK338.out 2) | ((with_reducible refine gate_callee (f := 16) rfl ?_); refine goesL_ (some 18) rfl rfl Try.func16 (by kernel_rfl) rfl #[.agg #[.int .i64 a0_0, .slice A0_1 l0_1.length c0_1, .slice A0_2 l0_2.length c0_2], .int .i64 1048576] rfl (by (try simp only [List.map_toArray, List.map_cons, List.map_nil]); first | done | rfl | (simp only [List.length_drop, List.length_take]; rfl)) ?_; (with_reducible refine (laws_szFree.calls a0_0 _ _ l0_1 _ _ l0_2 1048576 t340 _ ?side1 ?side2 ?side3 ?side4 A3.out).mono ?_); (case side1 => exact cK HR0_1.out HB.out); (case side2 => exact HC0_1.out); (case side3 => exact cK HR0_2.out HB.out); (case side4 => exact HC0_2.out); rintro e w9 ⟨rfl, hb⟩; refine ⟨_, rfl, ?_⟩; replace BK338 := yK BK338.out hb; replace BK339 := yK BK339.out hb; replace HB := aM (zT (zH HB.out) hb); (try clear hb)))
  go_ret
  exact ⟨by first | rfl | (simp [errW_none, errW_some] <;> rfl) | (simp [*, errW_none, errW_some] <;> rfl), zH HB.out⟩
 ·rw [if_neg c4] at H
  have c4b0 : decide (t340 < 0) = false := decide_eq_false c4
  clear c4
  replace H := Option.bind_eq_some_iff.mp H
  obtain ⟨⟨t341, t342, t345⟩, A100, H⟩ := H
  replace H : ((laws_toExtent.f a1_0 a1_1).bind fun bt348 => ((spec_TakeExact.f k t341 t342 t345 bt348.1 bt348.2).bind fun bt350 => ((laws_toFree.f k a0_0 l0_1 l0_2).bind fun bt359 => ((laws_toExtent.f a1_0 a1_1).bind fun bt367 => ((impl_TakeExact.f k bt359.1 bt359.2.1 bt359.2.2 bt367.1 bt367.2).bind fun bt369 => ((laws_eqFree.f k bt369.1 bt369.2.1 bt369.2.2.1 bt350.1 bt350.2.1 bt350.2.2.1).bind fun t378 => (if t378 = true then (laws_FnExactTakeExact.j0 k bt350.2.2.2 bt369.2.2.2 (bt369.2.2.2 != bt350.2.2.2) a0_0 l0_1 l0_2 a1_0 a1_1 bt350.1 bt350.2.1 bt350.2.2.1 bt359.1 bt359.2.1 bt359.2.2 bt369.1 bt369.2.1 bt369.2.2.1) else (laws_FnExactTakeExact.j0 k bt350.2.2.2 bt369.2.2.2 true a0_0 l0_1 l0_2 a1_0 a1_1 bt350.1 bt350.2.1 bt350.2.2.1 bt359.1 bt359.2.1 bt359.2.2 bt369.1 bt369.2.1 bt369.2.2.1)))))))) = some r := H
  have A10 := aM A100
  clear A100
  replace H := Option.bind_eq_some_iff.mp H
  obtain ⟨⟨t348, t349⟩, A110, H⟩ := H
  replace H : ((spec_TakeExact.f k t341 t342 t345 t348 t349).bind fun bt350 => ((laws_toFree.f k a0_0 l0_1 l0_2).bind fun bt359 => ((laws_toExtent.f a1_0 a1_1).bind fun bt367 => ((impl_TakeExact.f k bt359.1 bt359.2.1 bt359.2.2 bt367.1 bt367.2).bind fun bt369 => ((laws_eqFree.f k bt369.1 bt369.2.1 bt369.2.2.1 bt350.1 bt350.2.1 bt350.2.2.1).bind fun t378 => (if t378 = true then (laws_FnExactTakeExact.j0 k bt350.2.2.2 bt369.2.2.2 (bt369.2.2.2 != bt350.2.2.2) a0_0 l0_1 l0_2 a1_0 a1_1 bt350.1 bt350.2.1 bt350.2.2.1 bt359.1 bt359.2.1 bt359.2.2 bt369.1 bt369.2.1 bt369.2.2.1) else (laws_FnExactTakeExact.j0 k bt350.2.2.2 bt369.2.2.2 true a0_0 l0_1 l0_2 a1_0 a1_1 bt350.1 bt350.2.1 bt350.2.2.1 bt359.1 bt359.2.1 bt359.2.2 bt369.1 bt369.2.1 bt369.2.2.1))))))) = some r := H
  have A11 := aM A110
  clear A110
  replace H := Option.bind_eq_some_iff.mp H
  obtain ⟨⟨t350, t351, t354, t357⟩, A120, H⟩ := H
  replace H : ((laws_toFree.f k a0_0 l0_1 l0_2).bind fun bt359 => ((laws_toExtent.f a1_0 a1_1).bind fun bt367 => ((impl_TakeExact.f k bt359.1 bt359.2.1 bt359.2.2 bt367.1 bt367.2).bind fun bt369 => ((laws_eqFree.f k bt369.1 bt369.2.1 bt369.2.2.1 t350 t351 t354).bind fun t378 => (if t378 = true then (laws_FnExactTakeExact.j0 k t357 bt369.2.2.2 (bt369.2.2.2 != t357) a0_0 l0_1 l0_2 a1_0 a1_1 t350 t351 t354 bt359.1 bt359.2.1 bt359.2.2 bt369.1 bt369.2.1 bt369.2.2.1) else (laws_FnExactTakeExact.j0 k t357 bt369.2.2.2 true a0_0 l0_1 l0_2 a1_0 a1_1 t350 t351 t354 bt359.1 bt359.2.1 bt359.2.2 bt369.1 bt369.2.1 bt369.2.2.1)))))) = some r := H
  have A12 := aM A120
  clear A120
  replace H := Option.bind_eq_some_iff.mp H
  obtain ⟨⟨t359, t360, t363⟩, A130, H⟩ := H
  replace H : ((laws_toExtent.f a1_0 a1_1).bind fun bt367 => ((impl_TakeExact.f k t359 t360 t363 bt367.1 bt367.2).bind fun bt369 => ((laws_eqFree.f k bt369.1 bt369.2.1 bt369.2.2.1 t350 t351 t354).bind fun t378 => (if t378 = true then (laws_FnExactTakeExact.j0 k t357 bt369.2.2.2 (bt369.2.2.2 != t357) a0_0 l0_1 l0_2 a1_0 a1_1 t350 t351 t354 t359 t360 t363 bt369.1 bt369.2.1 bt369.2.2.1) else (laws_FnExactTakeExact.j0 k t357 bt369.2.2.2 true a0_0 l0_1 l0_2 a1_0 a1_1 t350 t351 t354 t359 t360 t363 bt369.1 bt369.2.1 bt369.2.2.1))))) = some r := H
  have A13 := aM A130
  clear A130
  replace H := Option.bind_eq_some_iff.mp H
  obtain ⟨⟨t367, t368⟩, A140, H⟩ := H
  replace H : ((impl_TakeExact.f k t359 t360 t363 t367 t368).bind fun bt369 => ((laws_eqFree.f k bt369.1 bt369.2.1 bt369.2.2.1 t350 t351 t354).bind fun t378 => (if t378 = true then (laws_FnExactTakeExact.j0 k t357 bt369.2.2.2 (bt369.2.2.2 != t357) a0_0 l0_1 l0_2 a1_0 a1_1 t350 t351 t354 t359 t360 t363 bt369.1 bt369.2.1 bt369.2.2.1) else (laws_FnExactTakeExact.j0 k t357 bt369.2.2.2 true a0_0 l0_1 l0_2 a1_0 a1_1 t350 t351 t354 t359 t360 t363 bt369.1 bt369.2.1 bt369.2.2.1)))) = some r := H
  have A14 := aM A140
  clear A140
  replace H := Option.bind_eq_some_iff.mp H
  obtain ⟨⟨t369, t370, t373, t376⟩, A150, H⟩ := H
  replace H : ((laws_eqFree.f k t369 t370 t373 t350 t351 t354).bind fun t378 => (if t378 = true then (laws_FnExactTakeExact.j0 k t357 t376 (t376 != t357) a0_0 l0_1 l0_2 a1_0 a1_1 t350 t351 t354 t359 t360 t363 t369 t370 t373) else (laws_FnExactTakeExact.j0 k t357 t376 true a0_0 l0_1 l0_2 a1_0 a1_1 t350 t351 t354 t359 t360 t363 t369 t370 t373))) = some r := H
  have A15 := aM A150
  clear A150
  have HC16 := aM H
  clear H
  go_enter Try.func9, Try.ntmps9
  try go_wp2_with (first | ((with_reducible refine gate_dst (N := 2) rfl ?_); refine box_event ?hg (N := 2) ?hd (cs := #[.int .i64 a0_0, .slice A0_1 l0_1.length c0_1, .slice A0_2 l0_2.length c0_2]) (t := 32) ?hr ?_; (case hd => rfl); (case hg => rfl); (case hr => first | (go_simp; done) | (go_simp; rfl)); intro gb338 hg w17 hbox hb; have BK338 := aM (hbox); have GW338 := aM ((by rw [hg]; exact (zZ (zH HB.out)) : w.heap.size ≤ gb338)); have GE338 := aM ((by rw [hg]; exact (zZ (zH HB.out)) : w.heap.size ≤ gb338)); replace HB := aM (zT (zH HB.out) hb); clear hb hbox hg) | ((with_reducible refine gate_dst (N := 3) rfl ?_); refine box_event ?hg (N := 3) ?hd (cs := #[.int .i64 a1_0, .int .i64 a1_1]) (t := 47) ?hr ?_; (case hd => rfl); (case hg => rfl); (case hr => first | (go_simp; done) | (go_simp; rfl)); intro gb339 hg w18 hbox hb; have BK339 := aM (hbox); have GW339 := aM ((by rw [hg]; exact (zZ (zH HB.out)) : w.heap.size ≤ gb339)); have GE339 := aM ((by rw [hg]; exact (zZ (zH HB.out)) : w.heap.size ≤ gb339)); replace HB := aM (zT (zH HB.out) hb); have NB338_339 := nL BK338.out hg; have NB339_338 := nR BK338.out hg; replace BK338 := yK BK338.out hb; clear hb hbox hg; have hnb19 := NB338_339.out; have hnc19 := NB339_338.out; have hcz20_0 : w18.cell? ⟨gb338, 0, none⟩ = some (.int .i64 a0_0) := yc BK338.out 0; have hcz20_1 : w18.cell? ⟨gb338, 1, none⟩ = some (.slice A0_1 l0_1.length c0_1) := yc BK338.out 1; have hcz20_2 : w18.cell? ⟨gb338, 2, none⟩ = some (.slice A0_2 l0_2.length c0_2) := yc BK338.out 2; have hfz20_0 := yZ BK338.out 0; have hfz20_1 := yZ BK338.out 1; have hfz20_2 := yZ BK338.out 2) | ((with_reducible refine gate_callee (f := 16) rfl ?_); refine goesL_ (some 18) rfl rfl Try.func16 (by kernel_rfl) rfl #[.agg #[.int .i64 a0_0, .slice A0_1 l0_1.length c0_1, .slice A0_2 l0_2.length c0_2], .int .i64 1048576] rfl (by (try simp only [List.map_toArray, List.map_cons, List.map_nil]); first | done | rfl | (simp only [List.length_drop, List.length_take]; rfl)) ?_; (with_reducible refine (laws_szFree.calls a0_0 _ _ l0_1 _ _ l0_2 1048576 t340 _ ?side1 ?side2 ?side3 ?side4 A3.out).mono ?_); (case side1 => exact cK HR0_1.out HB.out); (case side2 => exact HC0_1.out); (case side3 => exact cK HR0_2.out HB.out); (case side4 => exact HC0_2.out); rintro e w21 ⟨rfl, hb⟩; refine ⟨_, rfl, ?_⟩; replace BK338 := yK BK338.out hb; replace BK339 := yK BK339.out hb; replace HB := aM (zT (zH HB.out) hb); (try clear hb)))
  replace BK338 := aM (yD BK338.out)
  replace BK339 := aM (yD BK339.out)
  replace HB := aM (zD HB.out)
  refine start_ (n := 11) (S := fun w' => w'.cell? ⟨gb338, 0, none⟩ = some (.int .i64 a0_0) ∧ w'.cell? ⟨gb338, 1, none⟩ = some (.slice A0_1 l0_1.length c0_1) ∧ w'.cell? ⟨gb338, 2, none⟩ = some (.slice A0_2 l0_2.length c0_2) ∧ w'.cell? ⟨gb339, 0, none⟩ = some (.int .i64 a1_0) ∧ w'.cell? ⟨gb339, 1, none⟩ = some (.int .i64 a1_1)) (ds := []) #[fF,fF,fF,fF,fF,fF,fF,fF,fF,fF,fF] (by kernel_rfl) rfl rfl ⟨yc BK338.out 0, yc BK338.out 1, yc BK338.out 2, yc BK339.out 0, yc BK339.out 1⟩ (fun hHeld => ?_); refine with_tabW laws_FnExactTakeExact.tab5 laws_FnExactTakeExact.bits5 (fun HT_ HW_ => ?_)
  generalize w21.drew = w22 at BK338 BK339 HB hHeld ⊢
  refine take_ (i := 0) (N := some 22) (v := ?_) (a' := ?_) #[tT,fF,fF,fF,fF,fF,fF,fF,fF,fF,fF] rfl rfl (take_ofW HT_.out HW_.out (by kernel_rfl)) (fun _ _ _ h => h) (Or.inl ⟨by rfl, ?_⟩) hHeld ?_ ?_
  rotate_left
  ·rintro w' ⟨s0, s1, s2, s3, s4⟩
   go_simp
   with_reducible rfl
  rotate_left
  ·simp only [Act.put, qA, qB, qC, i64_w, i32_w]
   rfl
  refine take_ (i := 2) (N := some 24) (v := ?_) (a' := ?_) #[tT,fF,tT,fF,fF,fF,fF,fF,fF,fF,fF] rfl rfl (take_ofW HT_.out HW_.out (by kernel_rfl)) (fun _ _ _ h => h) (Or.inl ⟨by rfl, ?_⟩) hHeld ?_ ?_
  rotate_left
  ·rintro w' ⟨s0, s1, s2, s3, s4⟩
   go_simp
   with_reducible rfl
  rotate_left
  ·simp only [Act.put, qA, qB, qC, i64_w, i32_w]
   rfl
  refine join_ (σ := Value × Value × Value × Value × Nat) 2 #[tT,tT,tT,tT,tT,tT,tT,tT,tT,fF,fF] (fun s_ => [(23, .agg #[.int .i64 t341, s_.1, s_.2.1]), (25, .agg #[.int .i64 t348, .int .i64 t349]), (26, .tuple #[.agg #[.int .i64 t350, s_.2.2.1, s_.2.2.2.1], .bool t357]), (6, .pointer (some ⟨s_.2.2.2.2, 0, none⟩)), (21, .tuple #[.agg #[.int .i64 t350, s_.2.2.1, s_.2.2.2.1], .bool t357]), (27, .agg #[.int .i64 t350, s_.2.2.1, s_.2.2.2.1]), (28, .bool t357)]) (fun s_ w' => (w'.cell? ⟨gb338, 0, none⟩ = some (.int .i64 a0_0) ∧ w'.cell? ⟨gb338, 1, none⟩ = some (.slice A0_1 l0_1.length c0_1) ∧ w'.cell? ⟨gb338, 2, none⟩ = some (.slice A0_2 l0_2.length c0_2) ∧ w'.cell? ⟨gb339, 0, none⟩ = some (.int .i64 a1_0) ∧ w'.cell? ⟨gb339, 1, none⟩ = some (.int .i64 a1_1)) ∧ (Kd.R k49 49 w' w.heap.size (fun k_ => some k_ ≠ (s_.2.1 : Value).ownBlock ∧ some k_ ≠ (s_.2.2.1 : Value).ownBlock ∧ some k_ ≠ (s_.2.2.2.1 : Value).ownBlock) s_.1 t342) ∧ (Kd.R k49 49 w' w.heap.size (fun k_ => some k_ ≠ (s_.1 : Value).ownBlock ∧ some k_ ≠ (s_.2.2.1 : Value).ownBlock ∧ some k_ ≠ (s_.2.2.2.1 : Value).ownBlock) s_.2.1 t345) ∧ (Kd.R k49 49 w' w.heap.size (fun k_ => some k_ ≠ (s_.1 : Value).ownBlock ∧ some k_ ≠ (s_.2.1 : Value).ownBlock ∧ some k_ ≠ (s_.2.2.2.1 : Value).ownBlock) s_.2.2.1 t351) ∧ (Kd.R k49 49 w' w.heap.size (fun k_ => some k_ ≠ (s_.1 : Value).ownBlock ∧ some k_ ≠ (s_.2.1 : Value).ownBlock ∧ some k_ ≠ (s_.2.2.1 : Value).ownBlock) s_.2.2.2.1 t354) ∧ (w'.heap[gb338]? = some (.cells #[.int .i64 a0_0, .slice A0_1 l0_1.length c0_1, .slice A0_2 l0_2.length c0_2] 32 (0, 0))) ∧ (w'.heap[gb339]? = some (.cells #[.int .i64 a1_0, .int .i64 a1_1] 47 (0, 0))) ∧ (w'.heap[s_.2.2.2.2]? = some (.cells #[.int .i64 0, .slice none 0 0, .slice none 0 0] 24 (0, 0))) ∧ (w.heap.size ≤ s_.2.2.2.2) ∧ (w.heap.size ≤ s_.2.2.2.2) ∧ (gb338 ≠ s_.2.2.2.2) ∧ (s_.2.2.2.2 ≠ gb338) ∧ (gb339 ≠ s_.2.2.2.2) ∧ (s_.2.2.2.2 ≠ gb339) ∧ (Below w.heap.size w w')) ?_ ?_
  rotate_left
  ·intro hCont
   refine two_ (i := 1) (j := 8) (Ni := some 23) (Nj := some 6) #[tT,tT,tT,fF,fF,fF,fF,fF,fF,fF,fF] #[tT,fF,tT,fF,fF,fF,fF,fF,tT,fF,fF] rfl rfl rfl rfl (two_of HT_.out (by kernel_rfl)) (by decide) (by decide) (fun K hK => ?_) (fun K hK => ?_)
   ·skip
    refine gS Try.func18 (by kernel_rfl) rfl #[.agg #[.int .i64 a0_0, .slice A0_1 l0_1.length c0_1, .slice A0_2 l0_2.length c0_2]] (by rfl) rfl rfl ?_
    with_reducible refine (laws_toFree.calls k a0_0 _ _ l0_1 _ _ l0_2 t341 t342 t345 _ ?side1 ?side2 ?side3 ?side4 A10.out).mono ?_
    (case side1 => exact cK HR0_1.out HB.out)
    (case side2 => exact HC0_1.out)
    (case side3 => exact cK HR0_2.out HB.out)
    (case side4 => exact HC0_2.out)
    rintro e w23 ⟨v343, v346, rfl, ho0, ho1, hb⟩
    refine ⟨_, rfl, ?_⟩
    have HO344 := aM (xL ho0 (zZ (zH HB.out)))
    have HO347 := aM (xL ho1 (zZ (zH HB.out)))
    replace BK338 := yK BK338.out hb
    replace BK339 := yK BK339.out hb
    replace HB := aM (zT (zH HB.out) hb)
    (try clear hb); (try clear ho0); (try clear ho1)
    refine hK.out _ _ ⟨yc BK338.out 0, yc BK338.out 1, yc BK338.out 2, yc BK339.out 0, yc BK339.out 1⟩ (fun hHeld => ?_)
    clear hK K
    refine norm_ (a' := ?_) ?_ ?_
    rotate_left
    ·show Act.put _ (some 23) _ = _
     simp only [Act.put, qA, qB, qC, i64_w, i32_w]
     rfl
    refine two_ (i := 3) (j := 8) (Ni := some 25) (Nj := some 6) #[tT,tT,tT,tT,fF,fF,fF,fF,fF,fF,fF] #[tT,tT,tT,fF,fF,fF,fF,fF,tT,fF,fF] rfl rfl rfl rfl (two_of HT_.out (by kernel_rfl)) (by decide) (by decide) (fun K hK => ?_) (fun K hK => ?_)
    ·skip
     refine gS Try.func30 (by kernel_rfl) rfl #[.agg #[.int .i64 a1_0, .int .i64 a1_1]] (by rfl) rfl rfl ?_
     with_reducible refine (laws_toExtent.calls a1_0 a1_1 t348 t349 _ A11.out).mono ?_
     rintro e w24 ⟨rfl, hb⟩
     refine ⟨_, rfl, ?_⟩
     replace HO344 := xK HO344.out hb
     replace HO347 := xK HO347.out hb
     replace BK338 := yK BK338.out hb
     replace BK339 := yK BK339.out hb
     replace HB := aM (zT (zH HB.out) hb)
     (try clear hb)
     obtain ⟨Ao25, co25, eo25⟩ := Kd.R_slice HO344.out
     (first | subst eo25 | obtain ⟨rfl, rfl⟩ := eI eo25)
     obtain ⟨Ao26, co26, eo26⟩ := Kd.R_slice HO347.out
     (first | subst eo26 | obtain ⟨rfl, rfl⟩ := eI eo26)
     refine hK.out _ _ ⟨yc BK338.out 0, yc BK338.out 1, yc BK338.out 2, yc BK339.out 0, yc BK339.out 1⟩ (fun hHeld => ?_)
     clear hK K
     refine norm_ (a' := ?_) ?_ ?_
     rotate_left
     ·show Act.put _ (some 25) _ = _
      simp only [Act.put, qA, qB, qC, i64_w, i32_w]
      rfl
     refine two_ (i := 4) (j := 8) (Ni := some 26) (Nj := some 6) #[tT,tT,tT,tT,tT,fF,fF,fF,fF,fF,fF] #[tT,tT,tT,tT,fF,fF,fF,fF,tT,fF,fF] rfl rfl rfl rfl (two_of HT_.out (by kernel_rfl)) (by decide) (by decide) (fun K hK => ?_) (fun K hK => ?_)
     ·skip
      refine gS Try.func32 (by kernel_rfl) rfl #[.agg #[.int .i64 t341, .slice Ao25 t342.length co25, .slice Ao26 t345.length co26], .agg #[.int .i64 t348, .int .i64 t349]] (by rfl) rfl rfl ?_
      with_reducible refine (spec_TakeExact.calls k t341 _ _ t342 _ _ t345 t348 t349 t350 t351 t354 t357 _ ?side1 ?side2 ?side3 ?side4 A12.out).mono ?_
      (case side1 => repeat (first | exact (Kd.R_reads' HO344.out).2.2 | (with_reducible refine cA ?_ _) | (with_reducible refine cN ?_ _) | (with_reducible refine cD ?_)))
      (case side2 => exact (Kd.R_reads' HO344.out).2.1)
      (case side3 => repeat (first | exact (Kd.R_reads' HO347.out).2.2 | (with_reducible refine cA ?_ _) | (with_reducible refine cN ?_ _) | (with_reducible refine cD ?_)))
      (case side4 => exact (Kd.R_reads' HO347.out).2.1)
      rintro e w27 ⟨v352, v355, rfl, ho0, ho1, hb⟩
      refine ⟨_, rfl, ?_⟩
      have HO353 := aM (xL (Kd.R_new' (Kd.R_new' ho0 (Kd.R_lt (xH HO344.out))) (Kd.R_lt (xH HO347.out))) (zZ (zH HB.out)))
      have HO356 := aM (xL (Kd.R_new' (Kd.R_new' ho1 (Kd.R_lt (xH HO344.out))) (Kd.R_lt (xH HO347.out))) (zZ (zH HB.out)))
      replace HO344 := aM (xM (Kd.R_told (Kd.R_told (Kd.R_old (xH HO344.out) hb) (Kd.R_base ho0)) (Kd.R_base ho1)) (fun _ h_ => h_.1))
      replace HO347 := aM (xM (Kd.R_told (Kd.R_told (Kd.R_old (xH HO347.out) hb) (Kd.R_base ho0)) (Kd.R_base ho1)) (fun _ h_ => h_.1))
      replace BK338 := yK BK338.out hb
      replace BK339 := yK BK339.out hb
      replace HB := aM (zT (zH HB.out) hb)
      (try clear hb); (try clear ho0); (try clear ho1)
      refine hK.out _ _ ⟨yc BK338.out 0, yc BK338.out 1, yc BK338.out 2, yc BK339.out 0, yc BK339.out 1⟩ (fun hHeld => ?_)
      clear hK K
      refine norm_ (a' := ?_) ?_ ?_
      rotate_left
      ·show Act.put _ (some 26) _ = _
       simp only [Act.put, qA, qB, qC, i64_w, i32_w]
       rfl
      refine pure_ (i := 5) (N := some 21) (v := ?_) (a' := ?_) #[tT,tT,tT,tT,tT,tT,fF,fF,fF,fF,fF] rfl rfl (any_of HT_.out (by kernel_rfl)) (fun _ _ _ h => h) (Or.inl ⟨by rfl, ?_⟩) ?_ ?_
      rotate_left
      ·intro w'
       go_simp
       with_reducible rfl
      rotate_left
      ·simp only [Act.put, qA, qB, qC, i64_w, i32_w]
       rfl
      refine pure_ (i := 6) (N := some 27) (v := ?_) (a' := ?_) #[tT,tT,tT,tT,tT,tT,tT,fF,fF,fF,fF] rfl rfl (any_of HT_.out (by kernel_rfl)) (fun _ _ _ h => h) (Or.inl ⟨by rfl, ?_⟩) ?_ ?_
      rotate_left
      ·intro w'
       go_simp
       with_reducible rfl
      rotate_left
      ·simp only [Act.put, qA, qB, qC, i64_w, i32_w]
       rfl
      refine pure_ (i := 7) (N := some 28) (v := ?_) (a' := ?_) #[tT,tT,tT,tT,tT,tT,tT,tT,fF,fF,fF] rfl rfl (any_of HT_.out (by kernel_rfl)) (fun _ _ _ h => h) (Or.inl ⟨by rfl, ?_⟩) ?_ ?_
      rotate_left
      ·intro w'
       go_simp
       with_reducible rfl
      rotate_left
      ·simp only [Act.put, qA, qB, qC, i64_w, i32_w]
       rfl
      refine one_ (i := 8) (N := some 6) #[tT,tT,tT,tT,tT,tT,tT,tT,tT,fF,fF] rfl rfl (one_of HT_.out (by kernel_rfl)) (by decide) (fun K hK => ?_)
      refine box_step ?hg (N := 6) ?hd (cs := #[.int .i64 0, .slice none 0 0, .slice none 0 0]) (t := 24) ?hr ?_; (case hd => rfl); (case hg => rfl); (case hr => first | (go_simp; done) | (go_simp; rfl))
      intro gb358 hg w28 hbox hb
      replace HO344 := xK HO344.out hb
      replace HO347 := xK HO347.out hb
      replace HO353 := xK HO353.out hb
      replace HO356 := xK HO356.out hb
      have BK358 := aM (hbox)
      have GW358 := aM ((by rw [hg]; exact (zZ (zH HB.out)) : w.heap.size ≤ gb358))
      have GE358 := aM ((by rw [hg]; exact (zZ (zH HB.out)) : w.heap.size ≤ gb358))
      replace HB := aM (zT (zH HB.out) hb)
      have NB338_358 := nL BK338.out hg
      have NB358_338 := nR BK338.out hg
      replace BK338 := yK BK338.out hb
      have NB339_358 := nL BK339.out hg
      have NB358_339 := nR BK339.out hg
      replace BK339 := yK BK339.out hb
      clear hb hbox hg
      refine hK.out _ _ ⟨yc BK338.out 0, yc BK338.out 1, yc BK338.out 2, yc BK339.out 0, yc BK339.out 1⟩ (fun hHeld => ?_)
      clear hK K
      refine norm_ (a' := ?_) ?_ ?_
      rotate_left
      ·show Act.put _ (some 6) _ = _
       simp only [Act.put, qA, qB, qC, i64_w, i32_w]
       rfl
      exact norm_ (by simp only [putAll, Act.put, qA, qB, qC]) (hCont (.slice Ao25 t342.length co25, .slice Ao26 t345.length co26, v352, v355, gb358) _ ⟨hHeld, (xH (xM HO344.out (fun _ hk => ⟨hk.1.1, ⟨hk.1.2, hk.2⟩⟩))), (xH (xM HO347.out (fun _ hk => ⟨hk.1.1, ⟨hk.1.2, hk.2⟩⟩))), (xH (xM HO353.out (fun _ hk => ⟨hk.1.2, ⟨hk.2, hk.1.1⟩⟩))), (xH (xM HO356.out (fun _ hk => ⟨hk.1.2, ⟨hk.2, hk.1.1⟩⟩))), (yH BK338.out), (yH BK339.out), (yH BK358.out), GW358.out, GE358.out, NB338_358.out, NB358_338.out, NB339_358.out, NB358_339.out, (zH HB.out)⟩)
     ·skip
      refine box_step ?hg (N := 6) ?hd (cs := #[.int .i64 0, .slice none 0 0, .slice none 0 0]) (t := 24) ?hr ?_; (case hd => rfl); (case hg => rfl); (case hr => first | (go_simp; done) | (go_simp; rfl))
      intro gb358 hg w25 hbox hb
      replace HO344 := xK HO344.out hb
      replace HO347 := xK HO347.out hb
      have BK358 := aM (hbox)
      have GW358 := aM ((by rw [hg]; exact (zZ (zH HB.out)) : w.heap.size ≤ gb358))
      have GE358 := aM ((by rw [hg]; exact (zZ (zH HB.out)) : w.heap.size ≤ gb358))
      replace HB := aM (zT (zH HB.out) hb)
      have NB338_358 := nL BK338.out hg
      have NB358_338 := nR BK338.out hg
      replace BK338 := yK BK338.out hb
      have NB339_358 := nL BK339.out hg
      have NB358_339 := nR BK339.out hg
      replace BK339 := yK BK339.out hb
      clear hb hbox hg
      obtain ⟨Ao26, co26, eo26⟩ := Kd.R_slice HO344.out
      (first | subst eo26 | obtain ⟨rfl, rfl⟩ := eI eo26)
      obtain ⟨Ao27, co27, eo27⟩ := Kd.R_slice HO347.out
      (first | subst eo27 | obtain ⟨rfl, rfl⟩ := eI eo27)
      refine hK.out _ _ ⟨yc BK338.out 0, yc BK338.out 1, yc BK338.out 2, yc BK339.out 0, yc BK339.out 1⟩ (fun hHeld => ?_)
      clear hK K
      refine norm_ (a' := ?_) ?_ ?_
      rotate_left
      ·show Act.put _ (some 6) _ = _
       simp only [Act.put, qA, qB, qC, i64_w, i32_w]
       rfl
      refine one_ (i := 4) (N := some 26) #[tT,tT,tT,tT,tT,fF,fF,fF,tT,fF,fF] rfl rfl (one_of HT_.out (by kernel_rfl)) (by decide) (fun K hK => ?_)
      refine gS Try.func32 (by kernel_rfl) rfl #[.agg #[.int .i64 t341, .slice Ao26 t342.length co26, .slice Ao27 t345.length co27], .agg #[.int .i64 t348, .int .i64 t349]] (by rfl) rfl rfl ?_
      with_reducible refine (spec_TakeExact.calls k t341 _ _ t342 _ _ t345 t348 t349 t350 t351 t354 t357 _ ?side1 ?side2 ?side3 ?side4 A12.out).mono ?_
      (case side1 => repeat (first | exact (Kd.R_reads' HO344.out).2.2 | (with_reducible refine cA ?_ _) | (with_reducible refine cN ?_ _) | (with_reducible refine cD ?_)))
      (case side2 => exact (Kd.R_reads' HO344.out).2.1)
      (case side3 => repeat (first | exact (Kd.R_reads' HO347.out).2.2 | (with_reducible refine cA ?_ _) | (with_reducible refine cN ?_ _) | (with_reducible refine cD ?_)))
      (case side4 => exact (Kd.R_reads' HO347.out).2.1)
      rintro e w28 ⟨v352, v355, rfl, ho0, ho1, hb⟩
      refine ⟨_, rfl, ?_⟩
      have HO353 := aM (xL (Kd.R_new' (Kd.R_new' ho0 (Kd.R_lt (xH HO344.out))) (Kd.R_lt (xH HO347.out))) (zZ (zH HB.out)))
      have HO356 := aM (xL (Kd.R_new' (Kd.R_new' ho1 (Kd.R_lt (xH HO344.out))) (Kd.R_lt (xH HO347.out))) (zZ (zH HB.out)))
      replace HO344 := aM (xM (Kd.R_told (Kd.R_told (Kd.R_old (xH HO344.out) hb) (Kd.R_base ho0)) (Kd.R_base ho1)) (fun _ h_ => h_.1))
      replace HO347 := aM (xM (Kd.R_told (Kd.R_told (Kd.R_old (xH HO347.out) hb) (Kd.R_base ho0)) (Kd.R_base ho1)) (fun _ h_ => h_.1))
      replace BK338 := yK BK338.out hb
      replace BK339 := yK BK339.out hb
      replace BK358 := yK BK358.out hb
      replace HB := aM (zT (zH HB.out) hb)
      (try clear hb); (try clear ho0); (try clear ho1)
      refine hK.out _ _ ⟨yc BK338.out 0, yc BK338.out 1, yc BK338.out 2, yc BK339.out 0, yc BK339.out 1⟩ (fun hHeld => ?_)
      clear hK K
      refine norm_ (a' := ?_) ?_ ?_
      rotate_left
      ·show Act.put _ (some 26) _ = _
       simp only [Act.put, qA, qB, qC, i64_w, i32_w]
       rfl
      refine pure_ (i := 5) (N := some 21) (v := ?_) (a' := ?_) #[tT,tT,tT,tT,tT,tT,fF,fF,tT,fF,fF] rfl rfl (any_of HT_.out (by kernel_rfl)) (fun _ _ _ h => h) (Or.inl ⟨by rfl, ?_⟩) ?_ ?_
      rotate_left
      ·intro w'
       go_simp
       with_reducible rfl
      rotate_left
      ·simp only [Act.put, qA, qB, qC, i64_w, i32_w]
       rfl
      refine pure_ (i := 6) (N := some 27) (v := ?_) (a' := ?_) #[tT,tT,tT,tT,tT,tT,tT,fF,tT,fF,fF] rfl rfl (any_of HT_.out (by kernel_rfl)) (fun _ _ _ h => h) (Or.inl ⟨by rfl, ?_⟩) ?_ ?_
      rotate_left
      ·intro w'
       go_simp
       with_reducible rfl
      rotate_left
      ·simp only [Act.put, qA, qB, qC, i64_w, i32_w]
       rfl
      refine pure_ (i := 7) (N := some 28) (v := ?_) (a' := ?_) #[tT,tT,tT,tT,tT,tT,tT,tT,tT,fF,fF] rfl rfl (any_of HT_.out (by kernel_rfl)) (fun _ _ _ h => h) (Or.inl ⟨by rfl, ?_⟩) ?_ ?_
      rotate_left
      ·intro w'
       go_simp
       with_reducible rfl
      rotate_left
      ·simp only [Act.put, qA, qB, qC, i64_w, i32_w]
       rfl
      exact norm_ (by simp only [putAll, Act.put, qA, qB, qC]) (hCont (.slice Ao26 t342.length co26, .slice Ao27 t345.length co27, v352, v355, gb358) _ ⟨hHeld, (xH (xM HO344.out (fun _ hk => ⟨hk.1.1, ⟨hk.1.2, hk.2⟩⟩))), (xH (xM HO347.out (fun _ hk => ⟨hk.1.1, ⟨hk.1.2, hk.2⟩⟩))), (xH (xM HO353.out (fun _ hk => ⟨hk.1.2, ⟨hk.2, hk.1.1⟩⟩))), (xH (xM HO356.out (fun _ hk => ⟨hk.1.2, ⟨hk.2, hk.1.1⟩⟩))), (yH BK338.out), (yH BK339.out), (yH BK358.out), GW358.out, GE358.out, NB338_358.out, NB358_338.out, NB339_358.out, NB358_339.out, (zH HB.out)⟩)
    ·skip
     refine box_step ?hg (N := 6) ?hd (cs := #[.int .i64 0, .slice none 0 0, .slice none 0 0]) (t := 24) ?hr ?_; (case hd => rfl); (case hg => rfl); (case hr => first | (go_simp; done) | (go_simp; rfl))
     intro gb358 hg w24 hbox hb
     replace HO344 := xK HO344.out hb
     replace HO347 := xK HO347.out hb
     have BK358 := aM (hbox)
     have GW358 := aM ((by rw [hg]; exact (zZ (zH HB.out)) : w.heap.size ≤ gb358))
     have GE358 := aM ((by rw [hg]; exact (zZ (zH HB.out)) : w.heap.size ≤ gb358))
     replace HB := aM (zT (zH HB.out) hb)
     have NB338_358 := nL BK338.out hg
     have NB358_338 := nR BK338.out hg
     replace BK338 := yK BK338.out hb
     have NB339_358 := nL BK339.out hg
     have NB358_339 := nR BK339.out hg
     replace BK339 := yK BK339.out hb
     clear hb hbox hg
     refine hK.out _ _ ⟨yc BK338.out 0, yc BK338.out 1, yc BK338.out 2, yc BK339.out 0, yc BK339.out 1⟩ (fun hHeld => ?_)
     clear hK K
     refine norm_ (a' := ?_) ?_ ?_
     rotate_left
     ·show Act.put _ (some 6) _ = _
      simp only [Act.put, qA, qB, qC, i64_w, i32_w]
      rfl
     refine one_ (i := 3) (N := some 25) #[tT,tT,tT,tT,fF,fF,fF,fF,tT,fF,fF] rfl rfl (one_of HT_.out (by kernel_rfl)) (by decide) (fun K hK => ?_)
     refine gS Try.func30 (by kernel_rfl) rfl #[.agg #[.int .i64 a1_0, .int .i64 a1_1]] (by rfl) rfl rfl ?_
     with_reducible refine (laws_toExtent.calls a1_0 a1_1 t348 t349 _ A11.out).mono ?_
     rintro e w25 ⟨rfl, hb⟩
     refine ⟨_, rfl, ?_⟩
     replace HO344 := xK HO344.out hb
     replace HO347 := xK HO347.out hb
     replace BK338 := yK BK338.out hb
     replace BK339 := yK BK339.out hb
     replace BK358 := yK BK358.out hb
     replace HB := aM (zT (zH HB.out) hb)
     (try clear hb)
     obtain ⟨Ao26, co26, eo26⟩ := Kd.R_slice HO344.out
     (first | subst eo26 | obtain ⟨rfl, rfl⟩ := eI eo26)
     obtain ⟨Ao27, co27, eo27⟩ := Kd.R_slice HO347.out
     (first | subst eo27 | obtain ⟨rfl, rfl⟩ := eI eo27)
     refine hK.out _ _ ⟨yc BK338.out 0, yc BK338.out 1, yc BK338.out 2, yc BK339.out 0, yc BK339.out 1⟩ (fun hHeld => ?_)
     clear hK K
     refine norm_ (a' := ?_) ?_ ?_
     rotate_left
     ·show Act.put _ (some 25) _ = _
      simp only [Act.put, qA, qB, qC, i64_w, i32_w]
      rfl
     refine one_ (i := 4) (N := some 26) #[tT,tT,tT,tT,tT,fF,fF,fF,tT,fF,fF] rfl rfl (one_of HT_.out (by kernel_rfl)) (by decide) (fun K hK => ?_)
     refine gS Try.func32 (by kernel_rfl) rfl #[.agg #[.int .i64 t341, .slice Ao26 t342.length co26, .slice Ao27 t345.length co27], .agg #[.int .i64 t348, .int .i64 t349]] (by rfl) rfl rfl ?_
     with_reducible refine (spec_TakeExact.calls k t341 _ _ t342 _ _ t345 t348 t349 t350 t351 t354 t357 _ ?side1 ?side2 ?side3 ?side4 A12.out).mono ?_
     (case side1 => repeat (first | exact (Kd.R_reads' HO344.out).2.2 | (with_reducible refine cA ?_ _) | (with_reducible refine cN ?_ _) | (with_reducible refine cD ?_)))
     (case side2 => exact (Kd.R_reads' HO344.out).2.1)
     (case side3 => repeat (first | exact (Kd.R_reads' HO347.out).2.2 | (with_reducible refine cA ?_ _) | (with_reducible refine cN ?_ _) | (with_reducible refine cD ?_)))
     (case side4 => exact (Kd.R_reads' HO347.out).2.1)
     rintro e w28 ⟨v352, v355, rfl, ho0, ho1, hb⟩
     refine ⟨_, rfl, ?_⟩
     have HO353 := aM (xL (Kd.R_new' (Kd.R_new' ho0 (Kd.R_lt (xH HO344.out))) (Kd.R_lt (xH HO347.out))) (zZ (zH HB.out)))
     have HO356 := aM (xL (Kd.R_new' (Kd.R_new' ho1 (Kd.R_lt (xH HO344.out))) (Kd.R_lt (xH HO347.out))) (zZ (zH HB.out)))
     replace HO344 := aM (xM (Kd.R_told (Kd.R_told (Kd.R_old (xH HO344.out) hb) (Kd.R_base ho0)) (Kd.R_base ho1)) (fun _ h_ => h_.1))
     replace HO347 := aM (xM (Kd.R_told (Kd.R_told (Kd.R_old (xH HO347.out) hb) (Kd.R_base ho0)) (Kd.R_base ho1)) (fun _ h_ => h_.1))
     replace BK338 := yK BK338.out hb
     replace BK339 := yK BK339.out hb
     replace BK358 := yK BK358.out hb
     replace HB := aM (zT (zH HB.out) hb)
     (try clear hb); (try clear ho0); (try clear ho1)
     refine hK.out _ _ ⟨yc BK338.out 0, yc BK338.out 1, yc BK338.out 2, yc BK339.out 0, yc BK339.out 1⟩ (fun hHeld => ?_)
     clear hK K
     refine norm_ (a' := ?_) ?_ ?_
     rotate_left
     ·show Act.put _ (some 26) _ = _
      simp only [Act.put, qA, qB, qC, i64_w, i32_w]
      rfl
     refine pure_ (i := 5) (N := some 21) (v := ?_) (a' := ?_) #[tT,tT,tT,tT,tT,tT,fF,fF,tT,fF,fF] rfl rfl (any_of HT_.out (by kernel_rfl)) (fun _ _ _ h => h) (Or.inl ⟨by rfl, ?_⟩) ?_ ?_
     rotate_left
     ·intro w'
      go_simp
      with_reducible rfl
     rotate_left
     ·simp only [Act.put, qA, qB, qC, i64_w, i32_w]
      rfl
     refine pure_ (i := 6) (N := some 27) (v := ?_) (a' := ?_) #[tT,tT,tT,tT,tT,tT,tT,fF,tT,fF,fF] rfl rfl (any_of HT_.out (by kernel_rfl)) (fun _ _ _ h => h) (Or.inl ⟨by rfl, ?_⟩) ?_ ?_
     rotate_left
     ·intro w'
      go_simp
      with_reducible rfl
     rotate_left
     ·simp only [Act.put, qA, qB, qC, i64_w, i32_w]
      rfl
     refine pure_ (i := 7) (N := some 28) (v := ?_) (a' := ?_) #[tT,tT,tT,tT,tT,tT,tT,tT,tT,fF,fF] rfl rfl (any_of HT_.out (by kernel_rfl)) (fun _ _ _ h => h) (Or.inl ⟨by rfl, ?_⟩) ?_ ?_
     rotate_left
     ·intro w'
      go_simp
      with_reducible rfl
     rotate_left
     ·simp only [Act.put, qA, qB, qC, i64_w, i32_w]
      rfl
     exact norm_ (by simp only [putAll, Act.put, qA, qB, qC]) (hCont (.slice Ao26 t342.length co26, .slice Ao27 t345.length co27, v352, v355, gb358) _ ⟨hHeld, (xH (xM HO344.out (fun _ hk => ⟨hk.1.1, ⟨hk.1.2, hk.2⟩⟩))), (xH (xM HO347.out (fun _ hk => ⟨hk.1.1, ⟨hk.1.2, hk.2⟩⟩))), (xH (xM HO353.out (fun _ hk => ⟨hk.1.2, ⟨hk.2, hk.1.1⟩⟩))), (xH (xM HO356.out (fun _ hk => ⟨hk.1.2, ⟨hk.2, hk.1.1⟩⟩))), (yH BK338.out), (yH BK339.out), (yH BK358.out), GW358.out, GE358.out, NB338_358.out, NB358_338.out, NB339_358.out, NB358_339.out, (zH HB.out)⟩)
   ·skip
    refine box_step ?hg (N := 6) ?hd (cs := #[.int .i64 0, .slice none 0 0, .slice none 0 0]) (t := 24) ?hr ?_; (case hd => rfl); (case hg => rfl); (case hr => first | (go_simp; done) | (go_simp; rfl))
    intro gb358 hg w23 hbox hb
    have BK358 := aM (hbox)
    have GW358 := aM ((by rw [hg]; exact (zZ (zH HB.out)) : w.heap.size ≤ gb358))
    have GE358 := aM ((by rw [hg]; exact (zZ (zH HB.out)) : w.heap.size ≤ gb358))
    replace HB := aM (zT (zH HB.out) hb)
    have NB338_358 := nL BK338.out hg
    have NB358_338 := nR BK338.out hg
    replace BK338 := yK BK338.out hb
    have NB339_358 := nL BK339.out hg
    have NB358_339 := nR BK339.out hg
    replace BK339 := yK BK339.out hb
    clear hb hbox hg
    refine hK.out _ _ ⟨yc BK338.out 0, yc BK338.out 1, yc BK338.out 2, yc BK339.out 0, yc BK339.out 1⟩ (fun hHeld => ?_)
    clear hK K
    refine norm_ (a' := ?_) ?_ ?_
    rotate_left
    ·show Act.put _ (some 6) _ = _
     simp only [Act.put, qA, qB, qC, i64_w, i32_w]
     rfl
    refine one_ (i := 1) (N := some 23) #[tT,tT,tT,fF,fF,fF,fF,fF,tT,fF,fF] rfl rfl (one_of HT_.out (by kernel_rfl)) (by decide) (fun K hK => ?_)
    refine gS Try.func18 (by kernel_rfl) rfl #[.agg #[.int .i64 a0_0, .slice A0_1 l0_1.length c0_1, .slice A0_2 l0_2.length c0_2]] (by rfl) rfl rfl ?_
    with_reducible refine (laws_toFree.calls k a0_0 _ _ l0_1 _ _ l0_2 t341 t342 t345 _ ?side1 ?side2 ?side3 ?side4 A10.out).mono ?_
    (case side1 => exact cK HR0_1.out HB.out)
    (case side2 => exact HC0_1.out)
    (case side3 => exact cK HR0_2.out HB.out)
    (case side4 => exact HC0_2.out)
    rintro e w24 ⟨v343, v346, rfl, ho0, ho1, hb⟩
    refine ⟨_, rfl, ?_⟩
    have HO344 := aM (xL ho0 (zZ (zH HB.out)))
    have HO347 := aM (xL ho1 (zZ (zH HB.out)))
    replace BK338 := yK BK338.out hb
    replace BK339 := yK BK339.out hb
    replace BK358 := yK BK358.out hb
    replace HB := aM (zT (zH HB.out) hb)
    (try clear hb); (try clear ho0); (try clear ho1)
    refine hK.out _ _ ⟨yc BK338.out 0, yc BK338.out 1, yc BK338.out 2, yc BK339.out 0, yc BK339.out 1⟩ (fun hHeld => ?_)
    clear hK K
    refine norm_ (a' := ?_) ?_ ?_
    rotate_left
    ·show Act.put _ (some 23) _ = _
     simp only [Act.put, qA, qB, qC, i64_w, i32_w]
     rfl
    refine one_ (i := 3) (N := some 25) #[tT,tT,tT,tT,fF,fF,fF,fF,tT,fF,fF] rfl rfl (one_of HT_.out (by kernel_rfl)) (by decide) (fun K hK => ?_)
    refine gS Try.func30 (by kernel_rfl) rfl #[.agg #[.int .i64 a1_0, .int .i64 a1_1]] (by rfl) rfl rfl ?_
    with_reducible refine (laws_toExtent.calls a1_0 a1_1 t348 t349 _ A11.out).mono ?_
    rintro e w25 ⟨rfl, hb⟩
    refine ⟨_, rfl, ?_⟩
    replace HO344 := xK HO344.out hb
    replace HO347 := xK HO347.out hb
    replace BK338 := yK BK338.out hb
    replace BK339 := yK BK339.out hb
    replace BK358 := yK BK358.out hb
    replace HB := aM (zT (zH HB.out) hb)
    (try clear hb)
    obtain ⟨Ao26, co26, eo26⟩ := Kd.R_slice HO344.out
    (first | subst eo26 | obtain ⟨rfl, rfl⟩ := eI eo26)
    obtain ⟨Ao27, co27, eo27⟩ := Kd.R_slice HO347.out
    (first | subst eo27 | obtain ⟨rfl, rfl⟩ := eI eo27)
    refine hK.out _ _ ⟨yc BK338.out 0, yc BK338.out 1, yc BK338.out 2, yc BK339.out 0, yc BK339.out 1⟩ (fun hHeld => ?_)
    clear hK K
    refine norm_ (a' := ?_) ?_ ?_
    rotate_left
    ·show Act.put _ (some 25) _ = _
     simp only [Act.put, qA, qB, qC, i64_w, i32_w]
     rfl
    refine one_ (i := 4) (N := some 26) #[tT,tT,tT,tT,tT,fF,fF,fF,tT,fF,fF] rfl rfl (one_of HT_.out (by kernel_rfl)) (by decide) (fun K hK => ?_)
    refine gS Try.func32 (by kernel_rfl) rfl #[.agg #[.int .i64 t341, .slice Ao26 t342.length co26, .slice Ao27 t345.length co27], .agg #[.int .i64 t348, .int .i64 t349]] (by rfl) rfl rfl ?_
    with_reducible refine (spec_TakeExact.calls k t341 _ _ t342 _ _ t345 t348 t349 t350 t351 t354 t357 _ ?side1 ?side2 ?side3 ?side4 A12.out).mono ?_
    (case side1 => repeat (first | exact (Kd.R_reads' HO344.out).2.2 | (with_reducible refine cA ?_ _) | (with_reducible refine cN ?_ _) | (with_reducible refine cD ?_)))
    (case side2 => exact (Kd.R_reads' HO344.out).2.1)
    (case side3 => repeat (first | exact (Kd.R_reads' HO347.out).2.2 | (with_reducible refine cA ?_ _) | (with_reducible refine cN ?_ _) | (with_reducible refine cD ?_)))
    (case side4 => exact (Kd.R_reads' HO347.out).2.1)
    rintro e w28 ⟨v352, v355, rfl, ho0, ho1, hb⟩
    refine ⟨_, rfl, ?_⟩
    have HO353 := aM (xL (Kd.R_new' (Kd.R_new' ho0 (Kd.R_lt (xH HO344.out))) (Kd.R_lt (xH HO347.out))) (zZ (zH HB.out)))
    have HO356 := aM (xL (Kd.R_new' (Kd.R_new' ho1 (Kd.R_lt (xH HO344.out))) (Kd.R_lt (xH HO347.out))) (zZ (zH HB.out)))
    replace HO344 := aM (xM (Kd.R_told (Kd.R_told (Kd.R_old (xH HO344.out) hb) (Kd.R_base ho0)) (Kd.R_base ho1)) (fun _ h_ => h_.1))
    replace HO347 := aM (xM (Kd.R_told (Kd.R_told (Kd.R_old (xH HO347.out) hb) (Kd.R_base ho0)) (Kd.R_base ho1)) (fun _ h_ => h_.1))
    replace BK338 := yK BK338.out hb
    replace BK339 := yK BK339.out hb
    replace BK358 := yK BK358.out hb
    replace HB := aM (zT (zH HB.out) hb)
    (try clear hb); (try clear ho0); (try clear ho1)
    refine hK.out _ _ ⟨yc BK338.out 0, yc BK338.out 1, yc BK338.out 2, yc BK339.out 0, yc BK339.out 1⟩ (fun hHeld => ?_)
    clear hK K
    refine norm_ (a' := ?_) ?_ ?_
    rotate_left
    ·show Act.put _ (some 26) _ = _
     simp only [Act.put, qA, qB, qC, i64_w, i32_w]
     rfl
    refine pure_ (i := 5) (N := some 21) (v := ?_) (a' := ?_) #[tT,tT,tT,tT,tT,tT,fF,fF,tT,fF,fF] rfl rfl (any_of HT_.out (by kernel_rfl)) (fun _ _ _ h => h) (Or.inl ⟨by rfl, ?_⟩) ?_ ?_
    rotate_left
    ·intro w'
     go_simp
     with_reducible rfl
    rotate_left
    ·simp only [Act.put, qA, qB, qC, i64_w, i32_w]
     rfl
    refine pure_ (i := 6) (N := some 27) (v := ?_) (a' := ?_) #[tT,tT,tT,tT,tT,tT,tT,fF,tT,fF,fF] rfl rfl (any_of HT_.out (by kernel_rfl)) (fun _ _ _ h => h) (Or.inl ⟨by rfl, ?_⟩) ?_ ?_
    rotate_left
    ·intro w'
     go_simp
     with_reducible rfl
    rotate_left
    ·simp only [Act.put, qA, qB, qC, i64_w, i32_w]
     rfl
    refine pure_ (i := 7) (N := some 28) (v := ?_) (a' := ?_) #[tT,tT,tT,tT,tT,tT,tT,tT,tT,fF,fF] rfl rfl (any_of HT_.out (by kernel_rfl)) (fun _ _ _ h => h) (Or.inl ⟨by rfl, ?_⟩) ?_ ?_
    rotate_left
    ·intro w'
     go_simp
     with_reducible rfl
    rotate_left
    ·simp only [Act.put, qA, qB, qC, i64_w, i32_w]
     rfl
    exact norm_ (by simp only [putAll, Act.put, qA, qB, qC]) (hCont (.slice Ao26 t342.length co26, .slice Ao27 t345.length co27, v352, v355, gb358) _ ⟨hHeld, (xH (xM HO344.out (fun _ hk => ⟨hk.1.1, ⟨hk.1.2, hk.2⟩⟩))), (xH (xM HO347.out (fun _ hk => ⟨hk.1.1, ⟨hk.1.2, hk.2⟩⟩))), (xH (xM HO353.out (fun _ hk => ⟨hk.1.2, ⟨hk.2, hk.1.1⟩⟩))), (xH (xM HO356.out (fun _ hk => ⟨hk.1.2, ⟨hk.2, hk.1.1⟩⟩))), (yH BK338.out), (yH BK339.out), (yH BK358.out), GW358.out, GE358.out, NB338_358.out, NB358_338.out, NB339_358.out, NB358_339.out, (zH HB.out)⟩)
  rintro ⟨v343, v346, v352, v355, gb358⟩ w29 ⟨hS_, h0_, h1_, h2_, h3_, h4_, h5_, h6_, h7_, h8_, h9_, h10_, h11_, h12_, h13_⟩
  (try dsimp only at h0_ h1_ h2_ h3_ h4_ h5_ h6_ h7_ h8_ h9_ h10_ h11_ h12_ h13_)
  have n0_ := aM h0_
  have n1_ := aM h1_
  have n2_ := aM h2_
  have n3_ := aM h3_
  have n4_ := aM h4_
  have n5_ := aM h5_
  have n6_ := aM h6_
  have n7_ := aM h7_
  have n8_ := aM h8_
  have n9_ := aM h9_
  have n10_ := aM h10_
  have n11_ := aM h11_
  have n12_ := aM h12_
  have n13_ := aM h13_
  clear BK338 BK339 HB h0_ h1_ h2_ h3_ h4_ h5_ h6_ h7_ h8_ h9_ h10_ h11_ h12_ h13_
  have HO344 := n0_
  have HO347 := n1_
  have HO353 := n2_
  have HO356 := n3_
  have BK338 := n4_
  have BK339 := n5_
  have BK358 := n6_
  have GW358 := n7_
  have GE358 := n8_
  have NB338_358 := n9_
  have NB358_338 := n10_
  have NB339_358 := n11_
  have NB358_339 := n12_
  have HB := n13_
  clear n0_ n1_ n2_ n3_ n4_ n5_ n6_ n7_ n8_ n9_ n10_ n11_ n12_ n13_
  have hHeld : w29.cell? ⟨gb338, 0, none⟩ = some (.int .i64 a0_0) ∧ w29.cell? ⟨gb338, 1, none⟩ = some (.slice A0_1 l0_1.length c0_1) ∧ w29.cell? ⟨gb338, 2, none⟩ = some (.slice A0_2 l0_2.length c0_2) ∧ w29.cell? ⟨gb339, 0, none⟩ = some (.int .i64 a1_0) ∧ w29.cell? ⟨gb339, 1, none⟩ = some (.int .i64 a1_1) := hS_
  obtain ⟨Ao31, co31, eo31⟩ := Kd.R_slice HO353.out
  (first | subst eo31 | obtain ⟨rfl, rfl⟩ := eI eo31)
  obtain ⟨Ao33, co33, eo33⟩ := Kd.R_slice HO356.out
  (first | subst eo33 | obtain ⟨rfl, rfl⟩ := eI eo33)
  refine norm_ (a' := ?_) ?_ ?_
  rotate_left
  ·simp only [putAll, Act.put, qA, qB, qC]
   rfl
  refine one_ (i := 9) (N := none) #[tT,tT,tT,tT,tT,tT,tT,tT,tT,tT,fF] rfl rfl (one_of HT_.out (by kernel_rfl)) (by decide) (fun K hK => ?_)
  have hs30 : w29.cell? ⟨gb358, 0, none⟩ = some (.int .i64 0) := yc BK358.out 0
  have hfs30 := yZ BK358.out 0
  have hns30_0 := NB338_358.out
  have hns30_1 := NB339_358.out
  have hms30_0 := NB358_338.out
  have hms30_1 := NB358_339.out
  have hs32 : w29.cell? ⟨gb358, 1, none⟩ = some (.slice none 0 0) := yc BK358.out 1
  have hfs32 := yZ BK358.out 1
  have hns32_0 := NB338_358.out
  have hns32_1 := NB339_358.out
  have hms32_0 := NB358_338.out
  have hms32_1 := NB358_339.out
  have hs34 : w29.cell? ⟨gb358, 2, none⟩ = some (.slice none 0 0) := yc BK358.out 2
  have hfs34 := yZ BK358.out 2
  have hns34_0 := NB338_358.out
  have hns34_1 := NB339_358.out
  have hms34_0 := NB358_338.out
  have hms34_1 := NB358_339.out
  refine skip_ (w1 := ?_) (by rfl) rfl ?_ ?_
  rotate_left
  ·go_simp
   rfl
  refine hK.out _ _ ⟨((cell_far (p := ⟨gb358, _, none⟩) NB338_358.out _).trans (((cell_far (p := ⟨gb358, _, none⟩) NB338_358.out _).trans (((cell_far (p := ⟨gb358, _, none⟩) NB338_358.out _).trans (hHeld.1)))))), ((cell_far (p := ⟨gb358, _, none⟩) NB338_358.out _).trans (((cell_far (p := ⟨gb358, _, none⟩) NB338_358.out _).trans (((cell_far (p := ⟨gb358, _, none⟩) NB338_358.out _).trans (hHeld.2.1)))))), ((cell_far (p := ⟨gb358, _, none⟩) NB338_358.out _).trans (((cell_far (p := ⟨gb358, _, none⟩) NB338_358.out _).trans (((cell_far (p := ⟨gb358, _, none⟩) NB338_358.out _).trans (hHeld.2.2.1)))))), ((cell_far (p := ⟨gb358, _, none⟩) NB339_358.out _).trans (((cell_far (p := ⟨gb358, _, none⟩) NB339_358.out _).trans (((cell_far (p := ⟨gb358, _, none⟩) NB339_358.out _).trans (hHeld.2.2.2.1)))))), ((cell_far (p := ⟨gb358, _, none⟩) NB339_358.out _).trans (((cell_far (p := ⟨gb358, _, none⟩) NB339_358.out _).trans (((cell_far (p := ⟨gb358, _, none⟩) NB339_358.out _).trans (hHeld.2.2.2.2))))))⟩ (fun hHeld => ?_)
  clear hK K
  refine pure_ (i := 10) (N := some 7) (v := ?_) (a' := ?_) #[tT,tT,tT,tT,tT,tT,tT,tT,tT,tT,tT] rfl rfl (any_of HT_.out (by kernel_rfl)) (fun _ _ _ h => h) (Or.inl ⟨by rfl, ?_⟩) ?_ ?_
  rotate_left
  ·intro w'
   go_simp
   with_reducible rfl
  rotate_left
  ·simp only [Act.put, qA, qB, qC, i64_w, i32_w]
   rfl
  refine done_ (done_of HT_.out (by kernel_rfl)) ?_
  have hnb35 := NB338_358.out
  have hnc35 := NB358_338.out
  have hcz36_0 : w29.cell? ⟨gb338, 0, none⟩ = some (.int .i64 a0_0) := yc BK338.out 0
  have hcz36_1 : w29.cell? ⟨gb338, 1, none⟩ = some (.slice A0_1 l0_1.length c0_1) := yc BK338.out 1
  have hcz36_2 : w29.cell? ⟨gb338, 2, none⟩ = some (.slice A0_2 l0_2.length c0_2) := yc BK338.out 2
  have hfz36_0 := yZ BK338.out 0
  have hfz36_1 := yZ BK338.out 1
  have hfz36_2 := yZ BK338.out 2
  try go_wp2_with (first | ((with_reducible refine gate_callee (f := 18) rfl ?_); refine goesL_ (some 30) rfl rfl Try.func18 (by kernel_rfl) rfl #[.agg #[.int .i64 a0_0, .slice A0_1 l0_1.length c0_1, .slice A0_2 l0_2.length c0_2]] rfl (by (try simp only [List.map_toArray, List.map_cons, List.map_nil]); first | done | rfl | (simp only [List.length_drop, List.length_take]; rfl)) ?_; (with_reducible refine (laws_toFree.calls k a0_0 _ _ l0_1 _ _ l0_2 t359 t360 t363 _ ?side1 ?side2 ?side3 ?side4 A13.out).mono ?_); (case side1 => exact cB HR0_1.out (zH HB.out)); (case side2 => exact HC0_1.out); (case side3 => exact cB HR0_2.out (zH HB.out)); (case side4 => exact HC0_2.out); rintro e w37 ⟨v361, v364, rfl, ho0, ho1, hb⟩; refine ⟨_, rfl, ?_⟩; have HO362 := aM (xL (Kd.R_new' (Kd.R_new' (Kd.R_new' (Kd.R_new' ho0 (Kd.R_lt (xH ((x3 HO344.out BK358.out (by decide) (.int .i64 t350) (.slice Ao31 t351.length co31) (.slice Ao33 t354.length co33)))))) (Kd.R_lt (xH ((x3 HO347.out BK358.out (by decide) (.int .i64 t350) (.slice Ao31 t351.length co31) (.slice Ao33 t354.length co33)))))) (Kd.R_lt (xH ((x3 HO353.out BK358.out (by decide) (.int .i64 t350) (.slice Ao31 t351.length co31) (.slice Ao33 t354.length co33)))))) (Kd.R_lt (xH ((x3 HO356.out BK358.out (by decide) (.int .i64 t350) (.slice Ao31 t351.length co31) (.slice Ao33 t354.length co33)))))) (zZ (zH HB.out))); have HO365 := aM (xL (Kd.R_new' (Kd.R_new' (Kd.R_new' (Kd.R_new' ho1 (Kd.R_lt (xH ((x3 HO344.out BK358.out (by decide) (.int .i64 t350) (.slice Ao31 t351.length co31) (.slice Ao33 t354.length co33)))))) (Kd.R_lt (xH ((x3 HO347.out BK358.out (by decide) (.int .i64 t350) (.slice Ao31 t351.length co31) (.slice Ao33 t354.length co33)))))) (Kd.R_lt (xH ((x3 HO353.out BK358.out (by decide) (.int .i64 t350) (.slice Ao31 t351.length co31) (.slice Ao33 t354.length co33)))))) (Kd.R_lt (xH ((x3 HO356.out BK358.out (by decide) (.int .i64 t350) (.slice Ao31 t351.length co31) (.slice Ao33 t354.length co33)))))) (zZ (zH HB.out))); replace HO344 := aM (xM (Kd.R_told (Kd.R_told (Kd.R_old (xH ((x3 HO344.out BK358.out (by decide) (.int .i64 t350) (.slice Ao31 t351.length co31) (.slice Ao33 t354.length co33)))) hb) (Kd.R_base ho0)) (Kd.R_base ho1)) (fun _ h_ => h_.1)); replace HO347 := aM (xM (Kd.R_told (Kd.R_told (Kd.R_old (xH ((x3 HO347.out BK358.out (by decide) (.int .i64 t350) (.slice Ao31 t351.length co31) (.slice Ao33 t354.length co33)))) hb) (Kd.R_base ho0)) (Kd.R_base ho1)) (fun _ h_ => h_.1)); replace HO353 := aM (xM (Kd.R_told (Kd.R_told (Kd.R_old (xH ((x3 HO353.out BK358.out (by decide) (.int .i64 t350) (.slice Ao31 t351.length co31) (.slice Ao33 t354.length co33)))) hb) (Kd.R_base ho0)) (Kd.R_base ho1)) (fun _ h_ => h_.1)); replace HO356 := aM (xM (Kd.R_told (Kd.R_told (Kd.R_old (xH ((x3 HO356.out BK358.out (by decide) (.int .i64 t350) (.slice Ao31 t351.length co31) (.slice Ao33 t354.length co33)))) hb) (Kd.R_base ho0)) (Kd.R_base ho1)) (fun _ h_ => h_.1)); replace BK338 := aM (yB (g := gb338) (o := .cells #[.int .i64 a0_0, .slice A0_1 l0_1.length c0_1, .slice A0_2 l0_2.length c0_2] 32 (0, 0)) (by (with_reducible repeat (first | refine yN ?_ _ | refine yD ?_ | refine yA ?_ _)); refine yF ?_ NB338_358.out _; (with_reducible repeat (first | refine yN ?_ _ | refine yD ?_ | refine yA ?_ _)); refine yF ?_ NB338_358.out _; (with_reducible repeat (first | refine yN ?_ _ | refine yD ?_ | refine yA ?_ _)); refine yF ?_ NB338_358.out _; (with_reducible repeat (first | refine yN ?_ _ | refine yD ?_ | refine yA ?_ _)); exact BK338.out) hb); replace BK339 := aM (yB (g := gb339) (o := .cells #[.int .i64 a1_0, .int .i64 a1_1] 47 (0, 0)) (by (with_reducible repeat (first | refine yN ?_ _ | refine yD ?_ | refine yA ?_ _)); refine yF ?_ NB339_358.out _; (with_reducible repeat (first | refine yN ?_ _ | refine yD ?_ | refine yA ?_ _)); refine yF ?_ NB339_358.out _; (with_reducible repeat (first | refine yN ?_ _ | refine yD ?_ | refine yA ?_ _)); refine yF ?_ NB339_358.out _; (with_reducible repeat (first | refine yN ?_ _ | refine yD ?_ | refine yA ?_ _)); exact BK339.out) hb); replace BK358 := aM (yB (g := gb358) (o := .cells #[.int .i64 t350, .slice Ao31 t351.length co31, .slice Ao33 t354.length co33] 24 (0, 0)) (by (with_reducible repeat (first | refine yN ?_ _ | refine yD ?_ | refine yA ?_ _)); refine yP (cs := #[.int .i64 t350, .slice Ao31 t351.length co31, .slice none 0 0]) ?_ 2 _ rfl; (with_reducible repeat (first | refine yN ?_ _ | refine yD ?_ | refine yA ?_ _)); refine yP (cs := #[.int .i64 t350, .slice none 0 0, .slice none 0 0]) ?_ 1 _ rfl; (with_reducible repeat (first | refine yN ?_ _ | refine yD ?_ | refine yA ?_ _)); refine yP (cs := #[.int .i64 0, .slice none 0 0, .slice none 0 0]) ?_ 0 _ rfl; (with_reducible repeat (first | refine yN ?_ _ | refine yD ?_ | refine yA ?_ _)); exact BK358.out) hb); replace HB := aM (zT (zH HB.out) hb); (try clear hb); (try clear ho0); (try clear ho1)) | ((with_reducible refine gate_dst (N := 8) rfl ?_); refine box_event ?hg (N := 8) ?hd (cs := #[.int .i64 0, .slice none 0 0, .slice none 0 0]) (t := 24) ?hr ?_; (case hd => rfl); (case hg => rfl); (case hr => first | (go_simp; done) | (go_simp; rfl)); intro gb366 hg w38 hbox hb; replace HO344 := xK HO344.out hb; replace HO347 := xK HO347.out hb; replace HO353 := xK HO353.out hb; replace HO356 := xK HO356.out hb; replace HO362 := xK HO362.out hb; replace HO365 := xK HO365.out hb; have BK366 := aM (hbox); have GW366 := aM ((by rw [hg]; exact (zZ (zH HB.out)) : w.heap.size ≤ gb366)); have GE366 := aM ((by rw [hg]; exact (zZ (zH HB.out)) : w.heap.size ≤ gb366)); replace HB := aM (zT (zH HB.out) hb); have NB338_366 := nL BK338.out hg; have NB366_338 := nR BK338.out hg; replace BK338 := yK BK338.out hb; have NB339_366 := nL BK339.out hg; have NB366_339 := nR BK339.out hg; replace BK339 := yK BK339.out hb; have NB358_366 := nL BK358.out hg; have NB366_358 := nR BK358.out hg; replace BK358 := yK BK358.out hb; clear hb hbox hg; have hnb39 := NB366_338.out; have hnc39 := NB338_366.out; have hnb40 := NB366_339.out; have hnc40 := NB339_366.out; have hnb41 := NB366_358.out; have hnc41 := NB358_366.out; have hcz42_0 : w38.cell? ⟨gb366, 0, none⟩ = some (.int .i64 0) := yc BK366.out 0; have hcz42_1 : w38.cell? ⟨gb366, 1, none⟩ = some (.slice none 0 0) := yc BK366.out 1; have hcz42_2 : w38.cell? ⟨gb366, 2, none⟩ = some (.slice none 0 0) := yc BK366.out 2; have hfz42_0 := yZ BK366.out 0; have hfz42_1 := yZ BK366.out 1; have hfz42_2 := yZ BK366.out 2; obtain ⟨Ao43, co43, eo43⟩ := Kd.R_slice HO362.out; subst eo43; obtain ⟨Ao44, co44, eo44⟩ := Kd.R_slice HO365.out; subst eo44))
  have n0_ : Aside0 (Kd.R k49 49 (((w38.setCell ⟨gb366, 0, none⟩ (.int .i64 t359)).setCell ⟨gb366, 1, none⟩ (.slice Ao43 t360.length co43)).setCell ⟨gb366, 2, none⟩ (.slice Ao44 t363.length co44)) w.heap.size (fun k_ => some k_ ≠ (v346 : Value).ownBlock ∧ some k_ ≠ oB Ao31 t351.length co31 ∧ some k_ ≠ oB Ao33 t354.length co33 ∧ some k_ ≠ oB Ao43 t360.length co43 ∧ some k_ ≠ oB Ao44 t363.length co44) v343 t342) := ⟨xH (xM (xF (p := ⟨gb366, 2, none⟩) (xF (p := ⟨gb366, 1, none⟩) (xF (p := ⟨gb366, 0, none⟩) (xT HO344.out BK366.out (by decide)) (fun _ hk => hk.2) (.int .i64 t359)) (fun _ hk => hk.2) (.slice Ao43 t360.length co43)) (fun _ hk => hk.2) (.slice Ao44 t363.length co44)) (fun _ hk => ⟨hk.1.1.1.1, ⟨hk.1.1.1.2.1, ⟨hk.1.1.1.2.2, ⟨hk.1.1.2, hk.1.2⟩⟩⟩⟩))⟩
  have n1_ : Aside0 (Kd.R k49 49 (((w38.setCell ⟨gb366, 0, none⟩ (.int .i64 t359)).setCell ⟨gb366, 1, none⟩ (.slice Ao43 t360.length co43)).setCell ⟨gb366, 2, none⟩ (.slice Ao44 t363.length co44)) w.heap.size (fun k_ => some k_ ≠ (v343 : Value).ownBlock ∧ some k_ ≠ oB Ao31 t351.length co31 ∧ some k_ ≠ oB Ao33 t354.length co33 ∧ some k_ ≠ oB Ao43 t360.length co43 ∧ some k_ ≠ oB Ao44 t363.length co44) v346 t345) := ⟨xH (xM (xF (p := ⟨gb366, 2, none⟩) (xF (p := ⟨gb366, 1, none⟩) (xF (p := ⟨gb366, 0, none⟩) (xT HO347.out BK366.out (by decide)) (fun _ hk => hk.2) (.int .i64 t359)) (fun _ hk => hk.2) (.slice Ao43 t360.length co43)) (fun _ hk => hk.2) (.slice Ao44 t363.length co44)) (fun _ hk => ⟨hk.1.1.1.1, ⟨hk.1.1.1.2.1, ⟨hk.1.1.1.2.2, ⟨hk.1.1.2, hk.1.2⟩⟩⟩⟩))⟩
  have n2_ : Aside0 (Kd.R k49 49 (((w38.setCell ⟨gb366, 0, none⟩ (.int .i64 t359)).setCell ⟨gb366, 1, none⟩ (.slice Ao43 t360.length co43)).setCell ⟨gb366, 2, none⟩ (.slice Ao44 t363.length co44)) w.heap.size (fun k_ => some k_ ≠ (v343 : Value).ownBlock ∧ some k_ ≠ (v346 : Value).ownBlock ∧ some k_ ≠ oB Ao33 t354.length co33 ∧ some k_ ≠ oB Ao43 t360.length co43 ∧ some k_ ≠ oB Ao44 t363.length co44) (.slice Ao31 t351.length co31) t351) := ⟨xH (xM (xF (p := ⟨gb366, 2, none⟩) (xF (p := ⟨gb366, 1, none⟩) (xF (p := ⟨gb366, 0, none⟩) (xT HO353.out BK366.out (by decide)) (fun _ hk => hk.2) (.int .i64 t359)) (fun _ hk => hk.2) (.slice Ao43 t360.length co43)) (fun _ hk => hk.2) (.slice Ao44 t363.length co44)) (fun _ hk => ⟨hk.1.1.1.1, ⟨hk.1.1.1.2.1, ⟨hk.1.1.1.2.2, ⟨hk.1.1.2, hk.1.2⟩⟩⟩⟩))⟩
  have n3_ : Aside0 (Kd.R k49 49 (((w38.setCell ⟨gb366, 0, none⟩ (.int .i64 t359)).setCell ⟨gb366, 1, none⟩ (.slice Ao43 t360.length co43)).setCell ⟨gb366, 2, none⟩ (.slice Ao44 t363.length co44)) w.heap.size (fun k_ => some k_ ≠ (v343 : Value).ownBlock ∧ some k_ ≠ (v346 : Value).ownBlock ∧ some k_ ≠ oB Ao31 t351.length co31 ∧ some k_ ≠ oB Ao43 t360.length co43 ∧ some k_ ≠ oB Ao44 t363.length co44) (.slice Ao33 t354.length co33) t354) := ⟨xH (xM (xF (p := ⟨gb366, 2, none⟩) (xF (p := ⟨gb366, 1, none⟩) (xF (p := ⟨gb366, 0, none⟩) (xT HO356.out BK366.out (by decide)) (fun _ hk => hk.2) (.int .i64 t359)) (fun _ hk => hk.2) (.slice Ao43 t360.length co43)) (fun _ hk => hk.2) (.slice Ao44 t363.length co44)) (fun _ hk => ⟨hk.1.1.1.1, ⟨hk.1.1.1.2.1, ⟨hk.1.1.1.2.2, ⟨hk.1.1.2, hk.1.2⟩⟩⟩⟩))⟩
  have n4_ : Aside0 (Kd.R k49 49 (((w38.setCell ⟨gb366, 0, none⟩ (.int .i64 t359)).setCell ⟨gb366, 1, none⟩ (.slice Ao43 t360.length co43)).setCell ⟨gb366, 2, none⟩ (.slice Ao44 t363.length co44)) w.heap.size (fun k_ => some k_ ≠ (v343 : Value).ownBlock ∧ some k_ ≠ (v346 : Value).ownBlock ∧ some k_ ≠ oB Ao31 t351.length co31 ∧ some k_ ≠ oB Ao33 t354.length co33 ∧ some k_ ≠ oB Ao44 t363.length co44) (.slice Ao43 t360.length co43) t360) := ⟨xH (xM (xF (p := ⟨gb366, 2, none⟩) (xF (p := ⟨gb366, 1, none⟩) (xF (p := ⟨gb366, 0, none⟩) (xT HO362.out BK366.out (by decide)) (fun _ hk => hk.2) (.int .i64 t359)) (fun _ hk => hk.2) (.slice Ao43 t360.length co43)) (fun _ hk => hk.2) (.slice Ao44 t363.length co44)) (fun _ hk => ⟨hk.1.1.1.1.2, ⟨hk.1.1.1.2, ⟨hk.1.1.2, ⟨hk.1.2, hk.1.1.1.1.1⟩⟩⟩⟩))⟩
  have n5_ : Aside0 (Kd.R k49 49 (((w38.setCell ⟨gb366, 0, none⟩ (.int .i64 t359)).setCell ⟨gb366, 1, none⟩ (.slice Ao43 t360.length co43)).setCell ⟨gb366, 2, none⟩ (.slice Ao44 t363.length co44)) w.heap.size (fun k_ => some k_ ≠ (v343 : Value).ownBlock ∧ some k_ ≠ (v346 : Value).ownBlock ∧ some k_ ≠ oB Ao31 t351.length co31 ∧ some k_ ≠ oB Ao33 t354.length co33 ∧ some k_ ≠ oB Ao43 t360.length co43) (.slice Ao44 t363.length co44) t363) := ⟨xH (xM (xF (p := ⟨gb366, 2, none⟩) (xF (p := ⟨gb366, 1, none⟩) (xF (p := ⟨gb366, 0, none⟩) (xT HO365.out BK366.out (by decide)) (fun _ hk => hk.2) (.int .i64 t359)) (fun _ hk => hk.2) (.slice Ao43 t360.length co43)) (fun _ hk => hk.2) (.slice Ao44 t363.length co44)) (fun _ hk => ⟨hk.1.1.1.1.2, ⟨hk.1.1.1.2, ⟨hk.1.1.2, ⟨hk.1.2, hk.1.1.1.1.1⟩⟩⟩⟩))⟩
  have n6_ : Aside0 ((((w38.setCell ⟨gb366, 0, none⟩ (.int .i64 t359)).setCell ⟨gb366, 1, none⟩ (.slice Ao43 t360.length co43)).setCell ⟨gb366, 2, none⟩ (.slice Ao44 t363.length co44)).heap[gb338]? = some (.cells #[.int .i64 a0_0, .slice A0_1 l0_1.length c0_1, .slice A0_2 l0_2.length c0_2] 32 (0, 0))) := ⟨by (with_reducible repeat (first | refine yN ?_ _ | refine yD ?_ | refine yA ?_ _)); refine yF ?_ NB338_366.out _; (with_reducible repeat (first | refine yN ?_ _ | refine yD ?_ | refine yA ?_ _)); refine yF ?_ NB338_366.out _; (with_reducible repeat (first | refine yN ?_ _ | refine yD ?_ | refine yA ?_ _)); refine yF ?_ NB338_366.out _; (with_reducible repeat (first | refine yN ?_ _ | refine yD ?_ | refine yA ?_ _)); exact BK338.out⟩
  have n7_ : Aside0 ((((w38.setCell ⟨gb366, 0, none⟩ (.int .i64 t359)).setCell ⟨gb366, 1, none⟩ (.slice Ao43 t360.length co43)).setCell ⟨gb366, 2, none⟩ (.slice Ao44 t363.length co44)).heap[gb339]? = some (.cells #[.int .i64 a1_0, .int .i64 a1_1] 47 (0, 0))) := ⟨by (with_reducible repeat (first | refine yN ?_ _ | refine yD ?_ | refine yA ?_ _)); refine yF ?_ NB339_366.out _; (with_reducible repeat (first | refine yN ?_ _ | refine yD ?_ | refine yA ?_ _)); refine yF ?_ NB339_366.out _; (with_reducible repeat (first | refine yN ?_ _ | refine yD ?_ | refine yA ?_ _)); refine yF ?_ NB339_366.out _; (with_reducible repeat (first | refine yN ?_ _ | refine yD ?_ | refine yA ?_ _)); exact BK339.out⟩
  have n8_ : Aside0 ((((w38.setCell ⟨gb366, 0, none⟩ (.int .i64 t359)).setCell ⟨gb366, 1, none⟩ (.slice Ao43 t360.length co43)).setCell ⟨gb366, 2, none⟩ (.slice Ao44 t363.length co44)).heap[gb358]? = some (.cells #[.int .i64 t350, .slice Ao31 t351.length co31, .slice Ao33 t354.length co33] 24 (0, 0))) := ⟨by (with_reducible repeat (first | refine yN ?_ _ | refine yD ?_ | refine yA ?_ _)); refine yF ?_ NB358_366.out _; (with_reducible repeat (first | refine yN ?_ _ | refine yD ?_ | refine yA ?_ _)); refine yF ?_ NB358_366.out _; (with_reducible repeat (first | refine yN ?_ _ | refine yD ?_ | refine yA ?_ _)); refine yF ?_ NB358_366.out _; (with_reducible repeat (first | refine yN ?_ _ | refine yD ?_ | refine yA ?_ _)); exact BK358.out⟩
  have n9_ : Aside0 ((((w38.setCell ⟨gb366, 0, none⟩ (.int .i64 t359)).setCell ⟨gb366, 1, none⟩ (.slice Ao43 t360.length co43)).setCell ⟨gb366, 2, none⟩ (.slice Ao44 t363.length co44)).heap[gb366]? = some (.cells #[.int .i64 t359, .slice Ao43 t360.length co43, .slice Ao44 t363.length co44] 24 (0, 0))) := ⟨by (with_reducible repeat (first | refine yN ?_ _ | refine yD ?_ | refine yA ?_ _)); refine yP (cs := #[.int .i64 t359, .slice Ao43 t360.length co43, .slice none 0 0]) ?_ 2 _ rfl; (with_reducible repeat (first | refine yN ?_ _ | refine yD ?_ | refine yA ?_ _)); refine yP (cs := #[.int .i64 t359, .slice none 0 0, .slice none 0 0]) ?_ 1 _ rfl; (with_reducible repeat (first | refine yN ?_ _ | refine yD ?_ | refine yA ?_ _)); refine yP (cs := #[.int .i64 0, .slice none 0 0, .slice none 0 0]) ?_ 0 _ rfl; (with_reducible repeat (first | refine yN ?_ _ | refine yD ?_ | refine yA ?_ _)); exact BK366.out⟩
  have n10_ : Aside0 (Below w.heap.size w (((w38.setCell ⟨gb366, 0, none⟩ (.int .i64 t359)).setCell ⟨gb366, 1, none⟩ (.slice Ao43 t360.length co43)).setCell ⟨gb366, 2, none⟩ (.slice Ao44 t363.length co44))) := ⟨zH HB.out⟩
  (try clear HO344); (try clear HO347); (try clear HO353); (try clear HO356); (try clear HO362); (try clear HO365); (try clear BK338); (try clear BK339); (try clear BK358); (try clear BK366); (try clear HB)
  generalize (((w38.setCell ⟨gb366, 0, none⟩ (.int .i64 t359)).setCell ⟨gb366, 1, none⟩ (.slice Ao43 t360.length co43)).setCell ⟨gb366, 2, none⟩ (.slice Ao44 t363.length co44)) = w45 at n0_ n1_ n2_ n3_ n4_ n5_ n6_ n7_ n8_ n9_ n10_ ⊢
  have HO344 := n0_
  have HO347 := n1_
  have HO353 := n2_
  have HO356 := n3_
  have HO362 := n4_
  have HO365 := n5_
  have BK338 := n6_
  have BK339 := n7_
  have BK358 := n8_
  have BK366 := n9_
  have HB := n10_
  clear n0_ n1_ n2_ n3_ n4_ n5_ n6_ n7_ n8_ n9_ n10_
  replace HO344 := aM (xD HO344.out)
  replace HO347 := aM (xD HO347.out)
  replace HO353 := aM (xD HO353.out)
  replace HO356 := aM (xD HO356.out)
  replace HO362 := aM (xD HO362.out)
  replace HO365 := aM (xD HO365.out)
  replace BK338 := aM (yD BK338.out)
  replace BK339 := aM (yD BK339.out)
  replace BK358 := aM (yD BK358.out)
  replace BK366 := aM (yD BK366.out)
  replace HB := aM (zD HB.out)
  refine start_ (n := 10) (S := fun w' => w'.cell? ⟨gb366, 0, none⟩ = some (.int .i64 t359) ∧ w'.cell? ⟨gb366, 1, none⟩ = some (.slice Ao43 t360.length co43) ∧ w'.cell? ⟨gb366, 2, none⟩ = some (.slice Ao44 t363.length co44) ∧ w'.cell? ⟨gb339, 0, none⟩ = some (.int .i64 a1_0) ∧ w'.cell? ⟨gb339, 1, none⟩ = some (.int .i64 a1_1)) (ds := []) #[fF,fF,fF,fF,fF,fF,fF,fF,fF,fF] (by kernel_rfl) rfl rfl ⟨yc BK366.out 0, yc BK366.out 1, yc BK366.out 2, yc BK339.out 0, yc BK339.out 1⟩ (fun hHeld => ?_); refine with_tabW laws_FnExactTakeExact.tab7 laws_FnExactTakeExact.bits7 (fun HT_ HW_ => ?_)
  generalize w45.drew = w46 at HO344 HO347 HO353 HO356 HO362 HO365 BK338 BK339 BK358 BK366 HB hHeld ⊢
  refine take_ (i := 0) (N := some 32) (v := ?_) (a' := ?_) #[tT,fF,fF,fF,fF,fF,fF,fF,fF,fF] rfl rfl (take_ofW HT_.out HW_.out (by kernel_rfl)) (fun _ _ _ h => h) (Or.inl ⟨by rfl, ?_⟩) hHeld ?_ ?_
  rotate_left
  ·rintro w' ⟨s0, s1, s2, s3, s4⟩
   go_simp
   with_reducible rfl
  rotate_left
  ·simp only [Act.put, qA, qB, qC, i64_w, i32_w]
   rfl
  refine take_ (i := 1) (N := some 33) (v := ?_) (a' := ?_) #[tT,tT,fF,fF,fF,fF,fF,fF,fF,fF] rfl rfl (take_ofW HT_.out HW_.out (by kernel_rfl)) (fun _ _ _ h => h) (Or.inl ⟨by rfl, ?_⟩) hHeld ?_ ?_
  rotate_left
  ·rintro w' ⟨s0, s1, s2, s3, s4⟩
   go_simp
   with_reducible rfl
  rotate_left
  ·simp only [Act.put, qA, qB, qC, i64_w, i32_w]
   rfl
  refine join_ (σ := Value × Value × Nat) 2 #[tT,tT,tT,tT,tT,tT,tT,tT,fF,fF] (fun s_ => [(34, .agg #[.int .i64 t367, .int .i64 t368]), (35, .tuple #[.agg #[.int .i64 t369, s_.1, s_.2.1], .bool t376]), (9, .pointer (some ⟨s_.2.2, 0, none⟩)), (31, .tuple #[.agg #[.int .i64 t369, s_.1, s_.2.1], .bool t376]), (36, .agg #[.int .i64 t369, s_.1, s_.2.1]), (37, .bool t376)]) (fun s_ w' => (w'.cell? ⟨gb366, 0, none⟩ = some (.int .i64 t359) ∧ w'.cell? ⟨gb366, 1, none⟩ = some (.slice Ao43 t360.length co43) ∧ w'.cell? ⟨gb366, 2, none⟩ = some (.slice Ao44 t363.length co44) ∧ w'.cell? ⟨gb339, 0, none⟩ = some (.int .i64 a1_0) ∧ w'.cell? ⟨gb339, 1, none⟩ = some (.int .i64 a1_1)) ∧ (Kd.R k49 49 w' w.heap.size (fun k_ => some k_ ≠ (v346 : Value).ownBlock ∧ some k_ ≠ oB Ao31 t351.length co31 ∧ some k_ ≠ oB Ao33 t354.length co33 ∧ some k_ ≠ oB Ao43 t360.length co43 ∧ some k_ ≠ oB Ao44 t363.length co44 ∧ some k_ ≠ (s_.1 : Value).ownBlock ∧ some k_ ≠ (s_.2.1 : Value).ownBlock) v343 t342) ∧ (Kd.R k49 49 w' w.heap.size (fun k_ => some k_ ≠ (v343 : Value).ownBlock ∧ some k_ ≠ oB Ao31 t351.length co31 ∧ some k_ ≠ oB Ao33 t354.length co33 ∧ some k_ ≠ oB Ao43 t360.length co43 ∧ some k_ ≠ oB Ao44 t363.length co44 ∧ some k_ ≠ (s_.1 : Value).ownBlock ∧ some k_ ≠ (s_.2.1 : Value).ownBlock) v346 t345) ∧ (Kd.R k49 49 w' w.heap.size (fun k_ => some k_ ≠ (v343 : Value).ownBlock ∧ some k_ ≠ (v346 : Value).ownBlock ∧ some k_ ≠ oB Ao33 t354.length co33 ∧ some k_ ≠ oB Ao43 t360.length co43 ∧ some k_ ≠ oB Ao44 t363.length co44 ∧ some k_ ≠ (s_.1 : Value).ownBlock ∧ some k_ ≠ (s_.2.1 : Value).ownBlock) (.slice Ao31 t351.length co31) t351) ∧ (Kd.R k49 49 w' w.heap.size (fun k_ => some k_ ≠ (v343 : Value).ownBlock ∧ some k_ ≠ (v346 : Value).ownBlock ∧ some k_ ≠ oB Ao31 t351.length co31 ∧ some k_ ≠ oB Ao43 t360.length co43 ∧ some k_ ≠ oB Ao44 t363.length co44 ∧ some k_ ≠ (s_.1 : Value).ownBlock ∧ some k_ ≠ (s_.2.1 : Value).ownBlock) (.slice Ao33 t354.length co33) t354) ∧ (Kd.R k49 49 w' w.heap.size (fun k_ => some k_ ≠ (v343 : Value).ownBlock ∧ some k_ ≠ (v346 : Value).ownBlock ∧ some k_ ≠ oB Ao31 t351.length co31 ∧ some k_ ≠ oB Ao33 t354.length co33 ∧ some k_ ≠ oB Ao44 t363.length co44 ∧ some k_ ≠ (s_.1 : Value).ownBlock ∧ some k_ ≠ (s_.2.1 : Value).ownBlock) (.slice Ao43 t360.length co43) t360) ∧ (Kd.R k49 49 w' w.heap.size (fun k_ => some k_ ≠ (v343 : Value).ownBlock ∧ some k_ ≠ (v346 : Value).ownBlock ∧ some k_ ≠ oB Ao31 t351.length co31 ∧ some k_ ≠ oB Ao33 t354.length co33 ∧ some k_ ≠ oB Ao43 t360.length co43 ∧ some k_ ≠ (s_.1 : Value).ownBlock ∧ some k_ ≠ (s_.2.1 : Value).ownBlock) (.slice Ao44 t363.length co44) t363) ∧ (Kd.R k49 49 w' w.heap.size (fun k_ => some k_ ≠ (v343 : Value).ownBlock ∧ some k_ ≠ (v346 : Value).ownBlock ∧ some k_ ≠ oB Ao31 t351.length co31 ∧ some k_ ≠ oB Ao33 t354.length co33 ∧ some k_ ≠ oB Ao43 t360.length co43 ∧ some k_ ≠ oB Ao44 t363.length co44 ∧ some k_ ≠ (s_.2.1 : Value).ownBlock) s_.1 t370) ∧ (Kd.R k49 49 w' w.heap.size (fun k_ => some k_ ≠ (v343 : Value).ownBlock ∧ some k_ ≠ (v346 : Value).ownBlock ∧ some k_ ≠ oB Ao31 t351.length co31 ∧ some k_ ≠ oB Ao33 t354.length co33 ∧ some k_ ≠ oB Ao43 t360.length co43 ∧ some k_ ≠ oB Ao44 t363.length co44 ∧ some k_ ≠ (s_.1 : Value).ownBlock) s_.2.1 t373) ∧ (w'.heap[gb338]? = some (.cells #[.int .i64 a0_0, .slice A0_1 l0_1.length c0_1, .slice A0_2 l0_2.length c0_2] 32 (0, 0))) ∧ (w'.heap[gb339]? = some (.cells #[.int .i64 a1_0, .int .i64 a1_1] 47 (0, 0))) ∧ (w'.heap[gb358]? = some (.cells #[.int .i64 t350, .slice Ao31 t351.length co31, .slice Ao33 t354.length co33] 24 (0, 0))) ∧ (w'.heap[gb366]? = some (.cells #[.int .i64 t359, .slice Ao43 t360.length co43, .slice Ao44 t363.length co44] 24 (0, 0))) ∧ (w'.heap[s_.2.2]? = some (.cells #[.int .i64 0, .slice none 0 0, .slice none 0 0] 24 (0, 0))) ∧ (w.heap.size ≤ s_.2.2) ∧ (w.heap.size ≤ s_.2.2) ∧ (gb338 ≠ s_.2.2) ∧ (s_.2.2 ≠ gb338) ∧ (gb339 ≠ s_.2.2) ∧ (s_.2.2 ≠ gb339) ∧ (gb358 ≠ s_.2.2) ∧ (s_.2.2 ≠ gb358) ∧ (gb366 ≠ s_.2.2) ∧ (s_.2.2 ≠ gb366) ∧ (Below w.heap.size w w')) ?_ ?_
  rotate_left
  ·intro hCont
   refine two_ (i := 2) (j := 7) (Ni := some 34) (Nj := some 9) #[tT,tT,tT,fF,fF,fF,fF,fF,fF,fF] #[tT,tT,fF,fF,fF,fF,fF,tT,fF,fF] rfl rfl rfl rfl (two_of HT_.out (by kernel_rfl)) (by decide) (by decide) (fun K hK => ?_) (fun K hK => ?_)
   ·skip
    refine gS Try.func30 (by kernel_rfl) rfl #[.agg #[.int .i64 a1_0, .int .i64 a1_1]] (by rfl) rfl rfl ?_
    with_reducible refine (laws_toExtent.calls a1_0 a1_1 t367 t368 _ A14.out).mono ?_
    rintro e w47 ⟨rfl, hb⟩
    refine ⟨_, rfl, ?_⟩
    replace HO344 := xK HO344.out hb
    replace HO347 := xK HO347.out hb
    replace HO353 := xK HO353.out hb
    replace HO356 := xK HO356.out hb
    replace HO362 := xK HO362.out hb
    replace HO365 := xK HO365.out hb
    replace BK338 := yK BK338.out hb
    replace BK339 := yK BK339.out hb
    replace BK358 := yK BK358.out hb
    replace BK366 := yK BK366.out hb
    replace HB := aM (zT (zH HB.out) hb)
    (try clear hb)
    refine hK.out _ _ ⟨yc BK366.out 0, yc BK366.out 1, yc BK366.out 2, yc BK339.out 0, yc BK339.out 1⟩ (fun hHeld => ?_)
    clear hK K
    refine norm_ (a' := ?_) ?_ ?_
    rotate_left
    ·show Act.put _ (some 34) _ = _
     simp only [Act.put, qA, qB, qC, i64_w, i32_w]
     rfl
    refine two_ (i := 3) (j := 7) (Ni := some 35) (Nj := some 9) #[tT,tT,tT,tT,fF,fF,fF,fF,fF,fF] #[tT,tT,tT,fF,fF,fF,fF,tT,fF,fF] rfl rfl rfl rfl (two_of HT_.out (by kernel_rfl)) (by decide) (by decide) (fun K hK => ?_) (fun K hK => ?_)
    ·skip
     refine gS Try.func33 (by kernel_rfl) rfl #[.agg #[.int .i64 t359, .slice Ao43 t360.length co43, .slice Ao44 t363.length co44], .agg #[.int .i64 t367, .int .i64 t368]] (by rfl) rfl rfl ?_
     with_reducible refine (impl_TakeExact.calls k t359 _ _ t360 _ _ t363 t367 t368 t369 t370 t373 t376 _ ?side1 ?side2 ?side3 ?side4 A15.out).mono ?_
     (case side1 => repeat (first | exact (Kd.R_reads' HO362.out).2.2 | (with_reducible refine cA ?_ _) | (with_reducible refine cN ?_ _) | (with_reducible refine cD ?_)))
     (case side2 => exact (Kd.R_reads' HO362.out).2.1)
     (case side3 => repeat (first | exact (Kd.R_reads' HO365.out).2.2 | (with_reducible refine cA ?_ _) | (with_reducible refine cN ?_ _) | (with_reducible refine cD ?_)))
     (case side4 => exact (Kd.R_reads' HO365.out).2.1)
     rintro e w48 ⟨v371, v374, rfl, ho0, ho1, hb⟩
     refine ⟨_, rfl, ?_⟩
     have HO372 := aM (xL (Kd.R_new' (Kd.R_new' (Kd.R_new' (Kd.R_new' (Kd.R_new' (Kd.R_new' ho0 (Kd.R_lt (xH HO344.out))) (Kd.R_lt (xH HO347.out))) (Kd.R_lt (xH HO353.out))) (Kd.R_lt (xH HO356.out))) (Kd.R_lt (xH HO362.out))) (Kd.R_lt (xH HO365.out))) (zZ (zH HB.out)))
     have HO375 := aM (xL (Kd.R_new' (Kd.R_new' (Kd.R_new' (Kd.R_new' (Kd.R_new' (Kd.R_new' ho1 (Kd.R_lt (xH HO344.out))) (Kd.R_lt (xH HO347.out))) (Kd.R_lt (xH HO353.out))) (Kd.R_lt (xH HO356.out))) (Kd.R_lt (xH HO362.out))) (Kd.R_lt (xH HO365.out))) (zZ (zH HB.out)))
     replace HO344 := aM (xM (Kd.R_told (Kd.R_told (Kd.R_old (xH HO344.out) hb) (Kd.R_base ho0)) (Kd.R_base ho1)) (fun _ h_ => h_.1))
     replace HO347 := aM (xM (Kd.R_told (Kd.R_told (Kd.R_old (xH HO347.out) hb) (Kd.R_base ho0)) (Kd.R_base ho1)) (fun _ h_ => h_.1))
     replace HO353 := aM (xM (Kd.R_told (Kd.R_told (Kd.R_old (xH HO353.out) hb) (Kd.R_base ho0)) (Kd.R_base ho1)) (fun _ h_ => h_.1))
     replace HO356 := aM (xM (Kd.R_told (Kd.R_told (Kd.R_old (xH HO356.out) hb) (Kd.R_base ho0)) (Kd.R_base ho1)) (fun _ h_ => h_.1))
     replace HO362 := aM (xM (Kd.R_told (Kd.R_told (Kd.R_old (xH HO362.out) hb) (Kd.R_base ho0)) (Kd.R_base ho1)) (fun _ h_ => h_.1))
     replace HO365 := aM (xM (Kd.R_told (Kd.R_told (Kd.R_old (xH HO365.out) hb) (Kd.R_base ho0)) (Kd.R_base ho1)) (fun _ h_ => h_.1))
     replace BK338 := yK BK338.out hb
     replace BK339 := yK BK339.out hb
     replace BK358 := yK BK358.out hb
     replace BK366 := yK BK366.out hb
     replace HB := aM (zT (zH HB.out) hb)
     (try clear hb); (try clear ho0); (try clear ho1)
     refine hK.out _ _ ⟨yc BK366.out 0, yc BK366.out 1, yc BK366.out 2, yc BK339.out 0, yc BK339.out 1⟩ (fun hHeld => ?_)
     clear hK K
     refine norm_ (a' := ?_) ?_ ?_
     rotate_left
     ·show Act.put _ (some 35) _ = _
      simp only [Act.put, qA, qB, qC, i64_w, i32_w]
      rfl
     refine pure_ (i := 4) (N := some 31) (v := ?_) (a' := ?_) #[tT,tT,tT,tT,tT,fF,fF,fF,fF,fF] rfl rfl (any_of HT_.out (by kernel_rfl)) (fun _ _ _ h => h) (Or.inl ⟨by rfl, ?_⟩) ?_ ?_
     rotate_left
     ·intro w'
      go_simp
      with_reducible rfl
     rotate_left
     ·simp only [Act.put, qA, qB, qC, i64_w, i32_w]
      rfl
     refine pure_ (i := 5) (N := some 36) (v := ?_) (a' := ?_) #[tT,tT,tT,tT,tT,tT,fF,fF,fF,fF] rfl rfl (any_of HT_.out (by kernel_rfl)) (fun _ _ _ h => h) (Or.inl ⟨by rfl, ?_⟩) ?_ ?_
     rotate_left
     ·intro w'
      go_simp
      with_reducible rfl
     rotate_left
     ·simp only [Act.put, qA, qB, qC, i64_w, i32_w]
      rfl
     refine pure_ (i := 6) (N := some 37) (v := ?_) (a' := ?_) #[tT,tT,tT,tT,tT,tT,tT,fF,fF,fF] rfl rfl (any_of HT_.out (by kernel_rfl)) (fun _ _ _ h => h) (Or.inl ⟨by rfl, ?_⟩) ?_ ?_
     rotate_left
     ·intro w'
      go_simp
      with_reducible rfl
     rotate_left
     ·simp only [Act.put, qA, qB, qC, i64_w, i32_w]
      rfl
     refine one_ (i := 7) (N := some 9) #[tT,tT,tT,tT,tT,tT,tT,tT,fF,fF] rfl rfl (one_of HT_.out (by kernel_rfl)) (by decide) (fun K hK => ?_)
     refine box_step ?hg (N := 9) ?hd (cs := #[.int .i64 0, .slice none 0 0, .slice none 0 0]) (t := 24) ?hr ?_; (case hd => rfl); (case hg => rfl); (case hr => first | (go_simp; done) | (go_simp; rfl))
     intro gb377 hg w49 hbox hb
     replace HO344 := xK HO344.out hb
     replace HO347 := xK HO347.out hb
     replace HO353 := xK HO353.out hb
     replace HO356 := xK HO356.out hb
     replace HO362 := xK HO362.out hb
     replace HO365 := xK HO365.out hb
     replace HO372 := xK HO372.out hb
     replace HO375 := xK HO375.out hb
     have BK377 := aM (hbox)
     have GW377 := aM ((by rw [hg]; exact (zZ (zH HB.out)) : w.heap.size ≤ gb377))
     have GE377 := aM ((by rw [hg]; exact (zZ (zH HB.out)) : w.heap.size ≤ gb377))
     replace HB := aM (zT (zH HB.out) hb)
     have NB338_377 := nL BK338.out hg
     have NB377_338 := nR BK338.out hg
     replace BK338 := yK BK338.out hb
     have NB339_377 := nL BK339.out hg
     have NB377_339 := nR BK339.out hg
     replace BK339 := yK BK339.out hb
     have NB358_377 := nL BK358.out hg
     have NB377_358 := nR BK358.out hg
     replace BK358 := yK BK358.out hb
     have NB366_377 := nL BK366.out hg
     have NB377_366 := nR BK366.out hg
     replace BK366 := yK BK366.out hb
     clear hb hbox hg
     refine hK.out _ _ ⟨yc BK366.out 0, yc BK366.out 1, yc BK366.out 2, yc BK339.out 0, yc BK339.out 1⟩ (fun hHeld => ?_)
     clear hK K
     refine norm_ (a' := ?_) ?_ ?_
     rotate_left
     ·show Act.put _ (some 9) _ = _
      simp only [Act.put, qA, qB, qC, i64_w, i32_w]
      rfl
     exact norm_ (by simp only [putAll, Act.put, qA, qB, qC]) (hCont (v371, v374, gb377) _ ⟨hHeld, (xH (xM HO344.out (fun _ hk => ⟨hk.1.1.1, ⟨hk.1.1.2.1, ⟨hk.1.1.2.2.1, ⟨hk.1.1.2.2.2.1, ⟨hk.1.1.2.2.2.2, ⟨hk.1.2, hk.2⟩⟩⟩⟩⟩⟩))), (xH (xM HO347.out (fun _ hk => ⟨hk.1.1.1, ⟨hk.1.1.2.1, ⟨hk.1.1.2.2.1, ⟨hk.1.1.2.2.2.1, ⟨hk.1.1.2.2.2.2, ⟨hk.1.2, hk.2⟩⟩⟩⟩⟩⟩))), (xH (xM HO353.out (fun _ hk => ⟨hk.1.1.1, ⟨hk.1.1.2.1, ⟨hk.1.1.2.2.1, ⟨hk.1.1.2.2.2.1, ⟨hk.1.1.2.2.2.2, ⟨hk.1.2, hk.2⟩⟩⟩⟩⟩⟩))), (xH (xM HO356.out (fun _ hk => ⟨hk.1.1.1, ⟨hk.1.1.2.1, ⟨hk.1.1.2.2.1, ⟨hk.1.1.2.2.2.1, ⟨hk.1.1.2.2.2.2, ⟨hk.1.2, hk.2⟩⟩⟩⟩⟩⟩))), (xH (xM HO362.out (fun _ hk => ⟨hk.1.1.1, ⟨hk.1.1.2.1, ⟨hk.1.1.2.2.1, ⟨hk.1.1.2.2.2.1, ⟨hk.1.1.2.2.2.2, ⟨hk.1.2, hk.2⟩⟩⟩⟩⟩⟩))), (xH (xM HO365.out (fun _ hk => ⟨hk.1.1.1, ⟨hk.1.1.2.1, ⟨hk.1.1.2.2.1, ⟨hk.1.1.2.2.2.1, ⟨hk.1.1.2.2.2.2, ⟨hk.1.2, hk.2⟩⟩⟩⟩⟩⟩))), (xH (xM HO372.out (fun _ hk => ⟨hk.1.1.1.1.1.2, ⟨hk.1.1.1.1.2, ⟨hk.1.1.1.2, ⟨hk.1.1.2, ⟨hk.1.2, ⟨hk.2, hk.1.1.1.1.1.1⟩⟩⟩⟩⟩⟩))), (xH (xM HO375.out (fun _ hk => ⟨hk.1.1.1.1.1.2, ⟨hk.1.1.1.1.2, ⟨hk.1.1.1.2, ⟨hk.1.1.2, ⟨hk.1.2, ⟨hk.2, hk.1.1.1.1.1.1⟩⟩⟩⟩⟩⟩))), (yH BK338.out), (yH BK339.out), (yH BK358.out), (yH BK366.out), (yH BK377.out), GW377.out, GE377.out, NB338_377.out, NB377_338.out, NB339_377.out, NB377_339.out, NB358_377.out, NB377_358.out, NB366_377.out, NB377_366.out, (zH HB.out)⟩)
    ·skip
     refine box_step ?hg (N := 9) ?hd (cs := #[.int .i64 0, .slice none 0 0, .slice none 0 0]) (t := 24) ?hr ?_; (case hd => rfl); (case hg => rfl); (case hr => first | (go_simp; done) | (go_simp; rfl))
     intro gb377 hg w48 hbox hb
     replace HO344 := xK HO344.out hb
     replace HO347 := xK HO347.out hb
     replace HO353 := xK HO353.out hb
     replace HO356 := xK HO356.out hb
     replace HO362 := xK HO362.out hb
     replace HO365 := xK HO365.out hb
     have BK377 := aM (hbox)
     have GW377 := aM ((by rw [hg]; exact (zZ (zH HB.out)) : w.heap.size ≤ gb377))
     have GE377 := aM ((by rw [hg]; exact (zZ (zH HB.out)) : w.heap.size ≤ gb377))
     replace HB := aM (zT (zH HB.out) hb)
     have NB338_377 := nL BK338.out hg
     have NB377_338 := nR BK338.out hg
     replace BK338 := yK BK338.out hb
     have NB339_377 := nL BK339.out hg
     have NB377_339 := nR BK339.out hg
     replace BK339 := yK BK339.out hb
     have NB358_377 := nL BK358.out hg
     have NB377_358 := nR BK358.out hg
     replace BK358 := yK BK358.out hb
     have NB366_377 := nL BK366.out hg
     have NB377_366 := nR BK366.out hg
     replace BK366 := yK BK366.out hb
     clear hb hbox hg
     refine hK.out _ _ ⟨yc BK366.out 0, yc BK366.out 1, yc BK366.out 2, yc BK339.out 0, yc BK339.out 1⟩ (fun hHeld => ?_)
     clear hK K
     refine norm_ (a' := ?_) ?_ ?_
     rotate_left
     ·show Act.put _ (some 9) _ = _
      simp only [Act.put, qA, qB, qC, i64_w, i32_w]
      rfl
     refine one_ (i := 3) (N := some 35) #[tT,tT,tT,tT,fF,fF,fF,tT,fF,fF] rfl rfl (one_of HT_.out (by kernel_rfl)) (by decide) (fun K hK => ?_)
     refine gS Try.func33 (by kernel_rfl) rfl #[.agg #[.int .i64 t359, .slice Ao43 t360.length co43, .slice Ao44 t363.length co44], .agg #[.int .i64 t367, .int .i64 t368]] (by rfl) rfl rfl ?_
     with_reducible refine (impl_TakeExact.calls k t359 _ _ t360 _ _ t363 t367 t368 t369 t370 t373 t376 _ ?side1 ?side2 ?side3 ?side4 A15.out).mono ?_
     (case side1 => repeat (first | exact (Kd.R_reads' HO362.out).2.2 | (with_reducible refine cA ?_ _) | (with_reducible refine cN ?_ _) | (with_reducible refine cD ?_)))
     (case side2 => exact (Kd.R_reads' HO362.out).2.1)
     (case side3 => repeat (first | exact (Kd.R_reads' HO365.out).2.2 | (with_reducible refine cA ?_ _) | (with_reducible refine cN ?_ _) | (with_reducible refine cD ?_)))
     (case side4 => exact (Kd.R_reads' HO365.out).2.1)
     rintro e w49 ⟨v371, v374, rfl, ho0, ho1, hb⟩
     refine ⟨_, rfl, ?_⟩
     have HO372 := aM (xL (Kd.R_new' (Kd.R_new' (Kd.R_new' (Kd.R_new' (Kd.R_new' (Kd.R_new' ho0 (Kd.R_lt (xH HO344.out))) (Kd.R_lt (xH HO347.out))) (Kd.R_lt (xH HO353.out))) (Kd.R_lt (xH HO356.out))) (Kd.R_lt (xH HO362.out))) (Kd.R_lt (xH HO365.out))) (zZ (zH HB.out)))
     have HO375 := aM (xL (Kd.R_new' (Kd.R_new' (Kd.R_new' (Kd.R_new' (Kd.R_new' (Kd.R_new' ho1 (Kd.R_lt (xH HO344.out))) (Kd.R_lt (xH HO347.out))) (Kd.R_lt (xH HO353.out))) (Kd.R_lt (xH HO356.out))) (Kd.R_lt (xH HO362.out))) (Kd.R_lt (xH HO365.out))) (zZ (zH HB.out)))
     replace HO344 := aM (xM (Kd.R_told (Kd.R_told (Kd.R_old (xH HO344.out) hb) (Kd.R_base ho0)) (Kd.R_base ho1)) (fun _ h_ => h_.1))
     replace HO347 := aM (xM (Kd.R_told (Kd.R_told (Kd.R_old (xH HO347.out) hb) (Kd.R_base ho0)) (Kd.R_base ho1)) (fun _ h_ => h_.1))
     replace HO353 := aM (xM (Kd.R_told (Kd.R_told (Kd.R_old (xH HO353.out) hb) (Kd.R_base ho0)) (Kd.R_base ho1)) (fun _ h_ => h_.1))
     replace HO356 := aM (xM (Kd.R_told (Kd.R_told (Kd.R_old (xH HO356.out) hb) (Kd.R_base ho0)) (Kd.R_base ho1)) (fun _ h_ => h_.1))
     replace HO362 := aM (xM (Kd.R_told (Kd.R_told (Kd.R_old (xH HO362.out) hb) (Kd.R_base ho0)) (Kd.R_base ho1)) (fun _ h_ => h_.1))
     replace HO365 := aM (xM (Kd.R_told (Kd.R_told (Kd.R_old (xH HO365.out) hb) (Kd.R_base ho0)) (Kd.R_base ho1)) (fun _ h_ => h_.1))
     replace BK338 := yK BK338.out hb
     replace BK339 := yK BK339.out hb
     replace BK358 := yK BK358.out hb
     replace BK366 := yK BK366.out hb
     replace BK377 := yK BK377.out hb
     replace HB := aM (zT (zH HB.out) hb)
     (try clear hb); (try clear ho0); (try clear ho1)
     refine hK.out _ _ ⟨yc BK366.out 0, yc BK366.out 1, yc BK366.out 2, yc BK339.out 0, yc BK339.out 1⟩ (fun hHeld => ?_)
     clear hK K
     refine norm_ (a' := ?_) ?_ ?_
     rotate_left
     ·show Act.put _ (some 35) _ = _
      simp only [Act.put, qA, qB, qC, i64_w, i32_w]
      rfl
     refine pure_ (i := 4) (N := some 31) (v := ?_) (a' := ?_) #[tT,tT,tT,tT,tT,fF,fF,tT,fF,fF] rfl rfl (any_of HT_.out (by kernel_rfl)) (fun _ _ _ h => h) (Or.inl ⟨by rfl, ?_⟩) ?_ ?_
     rotate_left
     ·intro w'
      go_simp
      with_reducible rfl
     rotate_left
     ·simp only [Act.put, qA, qB, qC, i64_w, i32_w]
      rfl
     refine pure_ (i := 5) (N := some 36) (v := ?_) (a' := ?_) #[tT,tT,tT,tT,tT,tT,fF,tT,fF,fF] rfl rfl (any_of HT_.out (by kernel_rfl)) (fun _ _ _ h => h) (Or.inl ⟨by rfl, ?_⟩) ?_ ?_
     rotate_left
     ·intro w'
      go_simp
      with_reducible rfl
     rotate_left
     ·simp only [Act.put, qA, qB, qC, i64_w, i32_w]
      rfl
     refine pure_ (i := 6) (N := some 37) (v := ?_) (a' := ?_) #[tT,tT,tT,tT,tT,tT,tT,tT,fF,fF] rfl rfl (any_of HT_.out (by kernel_rfl)) (fun _ _ _ h => h) (Or.inl ⟨by rfl, ?_⟩) ?_ ?_
     rotate_left
     ·intro w'
      go_simp
      with_reducible rfl
     rotate_left
     ·simp only [Act.put, qA, qB, qC, i64_w, i32_w]
      rfl
     exact norm_ (by simp only [putAll, Act.put, qA, qB, qC]) (hCont (v371, v374, gb377) _ ⟨hHeld, (xH (xM HO344.out (fun _ hk => ⟨hk.1.1.1, ⟨hk.1.1.2.1, ⟨hk.1.1.2.2.1, ⟨hk.1.1.2.2.2.1, ⟨hk.1.1.2.2.2.2, ⟨hk.1.2, hk.2⟩⟩⟩⟩⟩⟩))), (xH (xM HO347.out (fun _ hk => ⟨hk.1.1.1, ⟨hk.1.1.2.1, ⟨hk.1.1.2.2.1, ⟨hk.1.1.2.2.2.1, ⟨hk.1.1.2.2.2.2, ⟨hk.1.2, hk.2⟩⟩⟩⟩⟩⟩))), (xH (xM HO353.out (fun _ hk => ⟨hk.1.1.1, ⟨hk.1.1.2.1, ⟨hk.1.1.2.2.1, ⟨hk.1.1.2.2.2.1, ⟨hk.1.1.2.2.2.2, ⟨hk.1.2, hk.2⟩⟩⟩⟩⟩⟩))), (xH (xM HO356.out (fun _ hk => ⟨hk.1.1.1, ⟨hk.1.1.2.1, ⟨hk.1.1.2.2.1, ⟨hk.1.1.2.2.2.1, ⟨hk.1.1.2.2.2.2, ⟨hk.1.2, hk.2⟩⟩⟩⟩⟩⟩))), (xH (xM HO362.out (fun _ hk => ⟨hk.1.1.1, ⟨hk.1.1.2.1, ⟨hk.1.1.2.2.1, ⟨hk.1.1.2.2.2.1, ⟨hk.1.1.2.2.2.2, ⟨hk.1.2, hk.2⟩⟩⟩⟩⟩⟩))), (xH (xM HO365.out (fun _ hk => ⟨hk.1.1.1, ⟨hk.1.1.2.1, ⟨hk.1.1.2.2.1, ⟨hk.1.1.2.2.2.1, ⟨hk.1.1.2.2.2.2, ⟨hk.1.2, hk.2⟩⟩⟩⟩⟩⟩))), (xH (xM HO372.out (fun _ hk => ⟨hk.1.1.1.1.1.2, ⟨hk.1.1.1.1.2, ⟨hk.1.1.1.2, ⟨hk.1.1.2, ⟨hk.1.2, ⟨hk.2, hk.1.1.1.1.1.1⟩⟩⟩⟩⟩⟩))), (xH (xM HO375.out (fun _ hk => ⟨hk.1.1.1.1.1.2, ⟨hk.1.1.1.1.2, ⟨hk.1.1.1.2, ⟨hk.1.1.2, ⟨hk.1.2, ⟨hk.2, hk.1.1.1.1.1.1⟩⟩⟩⟩⟩⟩))), (yH BK338.out), (yH BK339.out), (yH BK358.out), (yH BK366.out), (yH BK377.out), GW377.out, GE377.out, NB338_377.out, NB377_338.out, NB339_377.out, NB377_339.out, NB358_377.out, NB377_358.out, NB366_377.out, NB377_366.out, (zH HB.out)⟩)
   ·skip
    refine box_step ?hg (N := 9) ?hd (cs := #[.int .i64 0, .slice none 0 0, .slice none 0 0]) (t := 24) ?hr ?_; (case hd => rfl); (case hg => rfl); (case hr => first | (go_simp; done) | (go_simp; rfl))
    intro gb377 hg w47 hbox hb
    replace HO344 := xK HO344.out hb
    replace HO347 := xK HO347.out hb
    replace HO353 := xK HO353.out hb
    replace HO356 := xK HO356.out hb
    replace HO362 := xK HO362.out hb
    replace HO365 := xK HO365.out hb
    have BK377 := aM (hbox)
    have GW377 := aM ((by rw [hg]; exact (zZ (zH HB.out)) : w.heap.size ≤ gb377))
    have GE377 := aM ((by rw [hg]; exact (zZ (zH HB.out)) : w.heap.size ≤ gb377))
    replace HB := aM (zT (zH HB.out) hb)
    have NB338_377 := nL BK338.out hg
    have NB377_338 := nR BK338.out hg
    replace BK338 := yK BK338.out hb
    have NB339_377 := nL BK339.out hg
    have NB377_339 := nR BK339.out hg
    replace BK339 := yK BK339.out hb
    have NB358_377 := nL BK358.out hg
    have NB377_358 := nR BK358.out hg
    replace BK358 := yK BK358.out hb
    have NB366_377 := nL BK366.out hg
    have NB377_366 := nR BK366.out hg
    replace BK366 := yK BK366.out hb
    clear hb hbox hg
    refine hK.out _ _ ⟨yc BK366.out 0, yc BK366.out 1, yc BK366.out 2, yc BK339.out 0, yc BK339.out 1⟩ (fun hHeld => ?_)
    clear hK K
    refine norm_ (a' := ?_) ?_ ?_
    rotate_left
    ·show Act.put _ (some 9) _ = _
     simp only [Act.put, qA, qB, qC, i64_w, i32_w]
     rfl
    refine one_ (i := 2) (N := some 34) #[tT,tT,tT,fF,fF,fF,fF,tT,fF,fF] rfl rfl (one_of HT_.out (by kernel_rfl)) (by decide) (fun K hK => ?_)
    refine gS Try.func30 (by kernel_rfl) rfl #[.agg #[.int .i64 a1_0, .int .i64 a1_1]] (by rfl) rfl rfl ?_
    with_reducible refine (laws_toExtent.calls a1_0 a1_1 t367 t368 _ A14.out).mono ?_
    rintro e w48 ⟨rfl, hb⟩
    refine ⟨_, rfl, ?_⟩
    replace HO344 := xK HO344.out hb
    replace HO347 := xK HO347.out hb
    replace HO353 := xK HO353.out hb
    replace HO356 := xK HO356.out hb
    replace HO362 := xK HO362.out hb
    replace HO365 := xK HO365.out hb
    replace BK338 := yK BK338.out hb
    replace BK339 := yK BK339.out hb
    replace BK358 := yK BK358.out hb
    replace BK366 := yK BK366.out hb
    replace BK377 := yK BK377.out hb
    replace HB := aM (zT (zH HB.out) hb)
    (try clear hb)
    refine hK.out _ _ ⟨yc BK366.out 0, yc BK366.out 1, yc BK366.out 2, yc BK339.out 0, yc BK339.out 1⟩ (fun hHeld => ?_)
    clear hK K
    refine norm_ (a' := ?_) ?_ ?_
    rotate_left
    ·show Act.put _ (some 34) _ = _
     simp only [Act.put, qA, qB, qC, i64_w, i32_w]
     rfl
    refine one_ (i := 3) (N := some 35) #[tT,tT,tT,tT,fF,fF,fF,tT,fF,fF] rfl rfl (one_of HT_.out (by kernel_rfl)) (by decide) (fun K hK => ?_)
    refine gS Try.func33 (by kernel_rfl) rfl #[.agg #[.int .i64 t359, .slice Ao43 t360.length co43, .slice Ao44 t363.length co44], .agg #[.int .i64 t367, .int .i64 t368]] (by rfl) rfl rfl ?_
    with_reducible refine (impl_TakeExact.calls k t359 _ _ t360 _ _ t363 t367 t368 t369 t370 t373 t376 _ ?side1 ?side2 ?side3 ?side4 A15.out).mono ?_
    (case side1 => repeat (first | exact (Kd.R_reads' HO362.out).2.2 | (with_reducible refine cA ?_ _) | (with_reducible refine cN ?_ _) | (with_reducible refine cD ?_)))
    (case side2 => exact (Kd.R_reads' HO362.out).2.1)
    (case side3 => repeat (first | exact (Kd.R_reads' HO365.out).2.2 | (with_reducible refine cA ?_ _) | (with_reducible refine cN ?_ _) | (with_reducible refine cD ?_)))
    (case side4 => exact (Kd.R_reads' HO365.out).2.1)
    rintro e w49 ⟨v371, v374, rfl, ho0, ho1, hb⟩
    refine ⟨_, rfl, ?_⟩
    have HO372 := aM (xL (Kd.R_new' (Kd.R_new' (Kd.R_new' (Kd.R_new' (Kd.R_new' (Kd.R_new' ho0 (Kd.R_lt (xH HO344.out))) (Kd.R_lt (xH HO347.out))) (Kd.R_lt (xH HO353.out))) (Kd.R_lt (xH HO356.out))) (Kd.R_lt (xH HO362.out))) (Kd.R_lt (xH HO365.out))) (zZ (zH HB.out)))
    have HO375 := aM (xL (Kd.R_new' (Kd.R_new' (Kd.R_new' (Kd.R_new' (Kd.R_new' (Kd.R_new' ho1 (Kd.R_lt (xH HO344.out))) (Kd.R_lt (xH HO347.out))) (Kd.R_lt (xH HO353.out))) (Kd.R_lt (xH HO356.out))) (Kd.R_lt (xH HO362.out))) (Kd.R_lt (xH HO365.out))) (zZ (zH HB.out)))
    replace HO344 := aM (xM (Kd.R_told (Kd.R_told (Kd.R_old (xH HO344.out) hb) (Kd.R_base ho0)) (Kd.R_base ho1)) (fun _ h_ => h_.1))
    replace HO347 := aM (xM (Kd.R_told (Kd.R_told (Kd.R_old (xH HO347.out) hb) (Kd.R_base ho0)) (Kd.R_base ho1)) (fun _ h_ => h_.1))
    replace HO353 := aM (xM (Kd.R_told (Kd.R_told (Kd.R_old (xH HO353.out) hb) (Kd.R_base ho0)) (Kd.R_base ho1)) (fun _ h_ => h_.1))
    replace HO356 := aM (xM (Kd.R_told (Kd.R_told (Kd.R_old (xH HO356.out) hb) (Kd.R_base ho0)) (Kd.R_base ho1)) (fun _ h_ => h_.1))
    replace HO362 := aM (xM (Kd.R_told (Kd.R_told (Kd.R_old (xH HO362.out) hb) (Kd.R_base ho0)) (Kd.R_base ho1)) (fun _ h_ => h_.1))
    replace HO365 := aM (xM (Kd.R_told (Kd.R_told (Kd.R_old (xH HO365.out) hb) (Kd.R_base ho0)) (Kd.R_base ho1)) (fun _ h_ => h_.1))
    replace BK338 := yK BK338.out hb
    replace BK339 := yK BK339.out hb
    replace BK358 := yK BK358.out hb
    replace BK366 := yK BK366.out hb
    replace BK377 := yK BK377.out hb
    replace HB := aM (zT (zH HB.out) hb)
    (try clear hb); (try clear ho0); (try clear ho1)
    refine hK.out _ _ ⟨yc BK366.out 0, yc BK366.out 1, yc BK366.out 2, yc BK339.out 0, yc BK339.out 1⟩ (fun hHeld => ?_)
    clear hK K
    refine norm_ (a' := ?_) ?_ ?_
    rotate_left
    ·show Act.put _ (some 35) _ = _
     simp only [Act.put, qA, qB, qC, i64_w, i32_w]
     rfl
    refine pure_ (i := 4) (N := some 31) (v := ?_) (a' := ?_) #[tT,tT,tT,tT,tT,fF,fF,tT,fF,fF] rfl rfl (any_of HT_.out (by kernel_rfl)) (fun _ _ _ h => h) (Or.inl ⟨by rfl, ?_⟩) ?_ ?_
    rotate_left
    ·intro w'
     go_simp
     with_reducible rfl
    rotate_left
    ·simp only [Act.put, qA, qB, qC, i64_w, i32_w]
     rfl
    refine pure_ (i := 5) (N := some 36) (v := ?_) (a' := ?_) #[tT,tT,tT,tT,tT,tT,fF,tT,fF,fF] rfl rfl (any_of HT_.out (by kernel_rfl)) (fun _ _ _ h => h) (Or.inl ⟨by rfl, ?_⟩) ?_ ?_
    rotate_left
    ·intro w'
     go_simp
     with_reducible rfl
    rotate_left
    ·simp only [Act.put, qA, qB, qC, i64_w, i32_w]
     rfl
    refine pure_ (i := 6) (N := some 37) (v := ?_) (a' := ?_) #[tT,tT,tT,tT,tT,tT,tT,tT,fF,fF] rfl rfl (any_of HT_.out (by kernel_rfl)) (fun _ _ _ h => h) (Or.inl ⟨by rfl, ?_⟩) ?_ ?_
    rotate_left
    ·intro w'
     go_simp
     with_reducible rfl
    rotate_left
    ·simp only [Act.put, qA, qB, qC, i64_w, i32_w]
     rfl
    exact norm_ (by simp only [putAll, Act.put, qA, qB, qC]) (hCont (v371, v374, gb377) _ ⟨hHeld, (xH (xM HO344.out (fun _ hk => ⟨hk.1.1.1, ⟨hk.1.1.2.1, ⟨hk.1.1.2.2.1, ⟨hk.1.1.2.2.2.1, ⟨hk.1.1.2.2.2.2, ⟨hk.1.2, hk.2⟩⟩⟩⟩⟩⟩))), (xH (xM HO347.out (fun _ hk => ⟨hk.1.1.1, ⟨hk.1.1.2.1, ⟨hk.1.1.2.2.1, ⟨hk.1.1.2.2.2.1, ⟨hk.1.1.2.2.2.2, ⟨hk.1.2, hk.2⟩⟩⟩⟩⟩⟩))), (xH (xM HO353.out (fun _ hk => ⟨hk.1.1.1, ⟨hk.1.1.2.1, ⟨hk.1.1.2.2.1, ⟨hk.1.1.2.2.2.1, ⟨hk.1.1.2.2.2.2, ⟨hk.1.2, hk.2⟩⟩⟩⟩⟩⟩))), (xH (xM HO356.out (fun _ hk => ⟨hk.1.1.1, ⟨hk.1.1.2.1, ⟨hk.1.1.2.2.1, ⟨hk.1.1.2.2.2.1, ⟨hk.1.1.2.2.2.2, ⟨hk.1.2, hk.2⟩⟩⟩⟩⟩⟩))), (xH (xM HO362.out (fun _ hk => ⟨hk.1.1.1, ⟨hk.1.1.2.1, ⟨hk.1.1.2.2.1, ⟨hk.1.1.2.2.2.1, ⟨hk.1.1.2.2.2.2, ⟨hk.1.2, hk.2⟩⟩⟩⟩⟩⟩))), (xH (xM HO365.out (fun _ hk => ⟨hk.1.1.1, ⟨hk.1.1.2.1, ⟨hk.1.1.2.2.1, ⟨hk.1.1.2.2.2.1, ⟨hk.1.1.2.2.2.2, ⟨hk.1.2, hk.2⟩⟩⟩⟩⟩⟩))), (xH (xM HO372.out (fun _ hk => ⟨hk.1.1.1.1.1.2, ⟨hk.1.1.1.1.2, ⟨hk.1.1.1.2, ⟨hk.1.1.2, ⟨hk.1.2, ⟨hk.2, hk.1.1.1.1.1.1⟩⟩⟩⟩⟩⟩))), (xH (xM HO375.out (fun _ hk => ⟨hk.1.1.1.1.1.2, ⟨hk.1.1.1.1.2, ⟨hk.1.1.1.2, ⟨hk.1.1.2, ⟨hk.1.2, ⟨hk.2, hk.1.1.1.1.1.1⟩⟩⟩⟩⟩⟩))), (yH BK338.out), (yH BK339.out), (yH BK358.out), (yH BK366.out), (yH BK377.out), GW377.out, GE377.out, NB338_377.out, NB377_338.out, NB339_377.out, NB377_339.out, NB358_377.out, NB377_358.out, NB366_377.out, NB377_366.out, (zH HB.out)⟩)
  rintro ⟨v371, v374, gb377⟩ w50 ⟨hS_, h0_, h1_, h2_, h3_, h4_, h5_, h6_, h7_, h8_, h9_, h10_, h11_, h12_, h13_, h14_, h15_, h16_, h17_, h18_, h19_, h20_, h21_, h22_, h23_⟩
  (try dsimp only at h0_ h1_ h2_ h3_ h4_ h5_ h6_ h7_ h8_ h9_ h10_ h11_ h12_ h13_ h14_ h15_ h16_ h17_ h18_ h19_ h20_ h21_ h22_ h23_)
  have n0_ := aM h0_
  have n1_ := aM h1_
  have n2_ := aM h2_
  have n3_ := aM h3_
  have n4_ := aM h4_
  have n5_ := aM h5_
  have n6_ := aM h6_
  have n7_ := aM h7_
  have n8_ := aM h8_
  have n9_ := aM h9_
  have n10_ := aM h10_
  have n11_ := aM h11_
  have n12_ := aM h12_
  have n13_ := aM h13_
  have n14_ := aM h14_
  have n15_ := aM h15_
  have n16_ := aM h16_
  have n17_ := aM h17_
  have n18_ := aM h18_
  have n19_ := aM h19_
  have n20_ := aM h20_
  have n21_ := aM h21_
  have n22_ := aM h22_
  have n23_ := aM h23_
  clear HO344 HO347 HO353 HO356 HO362 HO365 BK338 BK339 BK358 BK366 HB h0_ h1_ h2_ h3_ h4_ h5_ h6_ h7_ h8_ h9_ h10_ h11_ h12_ h13_ h14_ h15_ h16_ h17_ h18_ h19_ h20_ h21_ h22_ h23_
  have HO344 := n0_
  have HO347 := n1_
  have HO353 := n2_
  have HO356 := n3_
  have HO362 := n4_
  have HO365 := n5_
  have HO372 := n6_
  have HO375 := n7_
  have BK338 := n8_
  have BK339 := n9_
  have BK358 := n10_
  have BK366 := n11_
  have BK377 := n12_
  have GW377 := n13_
  have GE377 := n14_
  have NB338_377 := n15_
  have NB377_338 := n16_
  have NB339_377 := n17_
  have NB377_339 := n18_
  have NB358_377 := n19_
  have NB377_358 := n20_
  have NB366_377 := n21_
  have NB377_366 := n22_
  have HB := n23_
  clear n0_ n1_ n2_ n3_ n4_ n5_ n6_ n7_ n8_ n9_ n10_ n11_ n12_ n13_ n14_ n15_ n16_ n17_ n18_ n19_ n20_ n21_ n22_ n23_
  have hHeld : w50.cell? ⟨gb366, 0, none⟩ = some (.int .i64 t359) ∧ w50.cell? ⟨gb366, 1, none⟩ = some (.slice Ao43 t360.length co43) ∧ w50.cell? ⟨gb366, 2, none⟩ = some (.slice Ao44 t363.length co44) ∧ w50.cell? ⟨gb339, 0, none⟩ = some (.int .i64 a1_0) ∧ w50.cell? ⟨gb339, 1, none⟩ = some (.int .i64 a1_1) := hS_
  obtain ⟨Ao52, co52, eo52⟩ := Kd.R_slice HO372.out
  (first | subst eo52 | obtain ⟨rfl, rfl⟩ := eI eo52)
  obtain ⟨Ao54, co54, eo54⟩ := Kd.R_slice HO375.out
  (first | subst eo54 | obtain ⟨rfl, rfl⟩ := eI eo54)
  refine norm_ (a' := ?_) ?_ ?_
  rotate_left
  ·simp only [putAll, Act.put, qA, qB, qC]
   rfl
  refine one_ (i := 8) (N := none) #[tT,tT,tT,tT,tT,tT,tT,tT,tT,fF] rfl rfl (one_of HT_.out (by kernel_rfl)) (by decide) (fun K hK => ?_)
  have hs51 : w50.cell? ⟨gb377, 0, none⟩ = some (.int .i64 0) := yc BK377.out 0
  have hfs51 := yZ BK377.out 0
  have hns51_0 := NB338_377.out
  have hns51_1 := NB339_377.out
  have hns51_2 := NB358_377.out
  have hns51_3 := NB366_377.out
  have hms51_0 := NB377_338.out
  have hms51_1 := NB377_339.out
  have hms51_2 := NB377_358.out
  have hms51_3 := NB377_366.out
  have hs53 : w50.cell? ⟨gb377, 1, none⟩ = some (.slice none 0 0) := yc BK377.out 1
  have hfs53 := yZ BK377.out 1
  have hns53_0 := NB338_377.out
  have hns53_1 := NB339_377.out
  have hns53_2 := NB358_377.out
  have hns53_3 := NB366_377.out
  have hms53_0 := NB377_338.out
  have hms53_1 := NB377_339.out
  have hms53_2 := NB377_358.out
  have hms53_3 := NB377_366.out
  have hs55 : w50.cell? ⟨gb377, 2, none⟩ = some (.slice none 0 0) := yc BK377.out 2
  have hfs55 := yZ BK377.out 2
  have hns55_0 := NB338_377.out
  have hns55_1 := NB339_377.out
  have hns55_2 := NB358_377.out
  have hns55_3 := NB366_377.out
  have hms55_0 := NB377_338.out
  have hms55_1 := NB377_339.out
  have hms55_2 := NB377_358.out
  have hms55_3 := NB377_366.out
  refine skip_ (w1 := ?_) (by rfl) rfl ?_ ?_
  rotate_left
  ·go_simp
   rfl
  refine hK.out _ _ ⟨((cell_far (p := ⟨gb377, _, none⟩) NB366_377.out _).trans (((cell_far (p := ⟨gb377, _, none⟩) NB366_377.out _).trans (((cell_far (p := ⟨gb377, _, none⟩) NB366_377.out _).trans (hHeld.1)))))), ((cell_far (p := ⟨gb377, _, none⟩) NB366_377.out _).trans (((cell_far (p := ⟨gb377, _, none⟩) NB366_377.out _).trans (((cell_far (p := ⟨gb377, _, none⟩) NB366_377.out _).trans (hHeld.2.1)))))), ((cell_far (p := ⟨gb377, _, none⟩) NB366_377.out _).trans (((cell_far (p := ⟨gb377, _, none⟩) NB366_377.out _).trans (((cell_far (p := ⟨gb377, _, none⟩) NB366_377.out _).trans (hHeld.2.2.1)))))), ((cell_far (p := ⟨gb377, _, none⟩) NB339_377.out _).trans (((cell_far (p := ⟨gb377, _, none⟩) NB339_377.out _).trans (((cell_far (p := ⟨gb377, _, none⟩) NB339_377.out _).trans (hHeld.2.2.2.1)))))), ((cell_far (p := ⟨gb377, _, none⟩) NB339_377.out _).trans (((cell_far (p := ⟨gb377, _, none⟩) NB339_377.out _).trans (((cell_far (p := ⟨gb377, _, none⟩) NB339_377.out _).trans (hHeld.2.2.2.2))))))⟩ (fun hHeld => ?_)
  clear hK K
  refine pure_ (i := 9) (N := some 10) (v := ?_) (a' := ?_) #[tT,tT,tT,tT,tT,tT,tT,tT,tT,tT] rfl rfl (any_of HT_.out (by kernel_rfl)) (fun _ _ _ h => h) (Or.inl ⟨by rfl, ?_⟩) ?_ ?_
  rotate_left
  ·intro w'
   go_simp
   with_reducible rfl
  rotate_left
  ·simp only [Act.put, qA, qB, qC, i64_w, i32_w]
   rfl
  refine done_ (done_of HT_.out (by kernel_rfl)) ?_
  go_upto_region 8 with (fail)
  go_cut [46] (fun v46 wc => ∃ (kq : Nat) (x46_15 : Bool), v46 = .bool x46_15 ∧ Aside0 (laws_FnExactTakeExact.j0 kq t357 t376 x46_15 a0_0 l0_1 l0_2 a1_0 a1_1 t350 t351 t354 t359 t360 t363 t369 t370 t373 = some r) ∧ Aside0 (kq ≤ k) ∧ Aside0 (Kd.R k49 49 wc w.heap.size (fun k_ => some k_ ≠ oB Ao33 t354.length co33 ∧ some k_ ≠ oB Ao43 t360.length co43 ∧ some k_ ≠ oB Ao44 t363.length co44 ∧ some k_ ≠ oB Ao52 t370.length co52 ∧ some k_ ≠ oB Ao54 t373.length co54) (.slice Ao31 t351.length co31) t351) ∧ Aside0 (Kd.R k49 49 wc w.heap.size (fun k_ => some k_ ≠ oB Ao31 t351.length co31 ∧ some k_ ≠ oB Ao43 t360.length co43 ∧ some k_ ≠ oB Ao44 t363.length co44 ∧ some k_ ≠ oB Ao52 t370.length co52 ∧ some k_ ≠ oB Ao54 t373.length co54) (.slice Ao33 t354.length co33) t354) ∧ Aside0 (Kd.R k49 49 wc w.heap.size (fun k_ => some k_ ≠ oB Ao31 t351.length co31 ∧ some k_ ≠ oB Ao33 t354.length co33 ∧ some k_ ≠ oB Ao44 t363.length co44 ∧ some k_ ≠ oB Ao52 t370.length co52 ∧ some k_ ≠ oB Ao54 t373.length co54) (.slice Ao43 t360.length co43) t360) ∧ Aside0 (Kd.R k49 49 wc w.heap.size (fun k_ => some k_ ≠ oB Ao31 t351.length co31 ∧ some k_ ≠ oB Ao33 t354.length co33 ∧ some k_ ≠ oB Ao43 t360.length co43 ∧ some k_ ≠ oB Ao52 t370.length co52 ∧ some k_ ≠ oB Ao54 t373.length co54) (.slice Ao44 t363.length co44) t363) ∧ Aside0 (Kd.R k49 49 wc w.heap.size (fun k_ => some k_ ≠ oB Ao31 t351.length co31 ∧ some k_ ≠ oB Ao33 t354.length co33 ∧ some k_ ≠ oB Ao43 t360.length co43 ∧ some k_ ≠ oB Ao44 t363.length co44 ∧ some k_ ≠ oB Ao54 t373.length co54) (.slice Ao52 t370.length co52) t370) ∧ Aside0 (Kd.R k49 49 wc w.heap.size (fun k_ => some k_ ≠ oB Ao31 t351.length co31 ∧ some k_ ≠ oB Ao33 t354.length co33 ∧ some k_ ≠ oB Ao43 t360.length co43 ∧ some k_ ≠ oB Ao44 t363.length co44 ∧ some k_ ≠ oB Ao52 t370.length co52) (.slice Ao54 t373.length co54) t373) ∧ Aside0 (wc.heap[gb338]? = some (.cells #[.int .i64 a0_0, (.slice A0_1 l0_1.length c0_1), (.slice A0_2 l0_2.length c0_2)] 32 (0, 0))) ∧ Aside0 (wc.heap[gb339]? = some (.cells #[.int .i64 a1_0, .int .i64 a1_1] 47 (0, 0))) ∧ Aside0 (wc.heap[gb358]? = some (.cells #[.int .i64 t350, (.slice Ao31 t351.length co31), (.slice Ao33 t354.length co33)] 24 (0, 0))) ∧ Aside0 (wc.heap[gb366]? = some (.cells #[.int .i64 t359, (.slice Ao43 t360.length co43), (.slice Ao44 t363.length co44)] 24 (0, 0))) ∧ Aside0 (wc.heap[gb377]? = some (.cells #[.int .i64 t369, (.slice Ao52 t370.length co52), (.slice Ao54 t373.length co54)] 24 (0, 0))) ∧ Aside0 (Below w.heap.size w wc))
  case first =>
   have H := HC16.out
   clear HC16
   replace H := Option.bind_eq_some_iff.mp H
   obtain ⟨t378, A560, H⟩ := H
   replace H : (if t378 = true then (laws_FnExactTakeExact.j0 k t357 t376 (t376 != t357) a0_0 l0_1 l0_2 a1_0 a1_1 t350 t351 t354 t359 t360 t363 t369 t370 t373) else (laws_FnExactTakeExact.j0 k t357 t376 true a0_0 l0_1 l0_2 a1_0 a1_1 t350 t351 t354 t359 t360 t363 t369 t370 t373)) = some r := H
   have A56 := aM A560
   clear A560
   by_cases c57 : t378 = true
   ·subst c57
    have H1 : (laws_FnExactTakeExact.j0 k t357 t376 (t376 != t357) a0_0 l0_1 l0_2 a1_0 a1_1 t350 t351 t354 t359 t360 t363 t369 t370 t373) = some r := by rw [if_pos rfl] at H; exact H
    clear H
    have H := H1
    clear H1
    have H' := aM H
    clear H
    have hnb58 := NB377_338.out
    have hnc58 := NB338_377.out
    have hnb59 := NB377_339.out
    have hnc59 := NB339_377.out
    have hnb60 := NB377_358.out
    have hnc60 := NB358_377.out
    have hnb61 := NB377_366.out
    have hnc61 := NB366_377.out
    have hcz62_0 : w50.cell? ⟨gb377, 0, none⟩ = some (.int .i64 0) := yc BK377.out 0
    have hcz62_1 : w50.cell? ⟨gb377, 1, none⟩ = some (.slice none 0 0) := yc BK377.out 1
    have hcz62_2 : w50.cell? ⟨gb377, 2, none⟩ = some (.slice none 0 0) := yc BK377.out 2
    have hfz62_0 := yZ BK377.out 0
    have hfz62_1 := yZ BK377.out 1
    have hfz62_2 := yZ BK377.out 2
    have hnb63 := NB358_338.out
    have hnc63 := NB338_358.out
    have hnb64 := NB358_339.out
    have hnc64 := NB339_358.out
    have hnb65 := NB358_366.out
    have hnc65 := NB366_358.out
    have hcz66_0 : w50.cell? ⟨gb358, 0, none⟩ = some (.int .i64 t350) := yc BK358.out 0
    have hcz66_1 : w50.cell? ⟨gb358, 1, none⟩ = some (.slice Ao31 t351.length co31) := yc BK358.out 1
    have hcz66_2 : w50.cell? ⟨gb358, 2, none⟩ = some (.slice Ao33 t354.length co33) := yc BK358.out 2
    have hfz66_0 := yZ BK358.out 0
    have hfz66_1 := yZ BK358.out 1
    have hfz66_2 := yZ BK358.out 2
    go_wp2_with (first | ((with_reducible refine gate_callee (f := 13) rfl ?_); refine goesL_ (some 40) rfl rfl Try.func13 (by kernel_rfl) rfl #[.agg #[.int .i64 t369, .slice Ao52 t370.length co52, .slice Ao54 t373.length co54], .agg #[.int .i64 t350, .slice Ao31 t351.length co31, .slice Ao33 t354.length co33]] rfl (by (try simp only [List.map_toArray, List.map_cons, List.map_nil]); first | done | rfl | (simp only [List.length_drop, List.length_take]; rfl)) ?_; (with_reducible refine (laws_eqFree.calls k t369 _ _ t370 _ _ t373 t350 _ _ t351 _ _ t354 true _ ?side1 ?side2 ?side3 ?side4 ?side5 ?side6 ?side7 ?side8 A56.out).mono ?_); (case side1 => exact rC (n := t370.length) (c := co52) ((x3 HO372.out BK377.out (by decide) (.int .i64 t369) (.slice Ao52 t370.length co52) (.slice Ao54 t373.length co54)))); (case side2 => exact (Kd.R_reads' HO372.out).2.1); (case side3 => exact rC (n := t373.length) (c := co54) ((x3 HO375.out BK377.out (by decide) (.int .i64 t369) (.slice Ao52 t370.length co52) (.slice Ao54 t373.length co54)))); (case side4 => exact (Kd.R_reads' HO375.out).2.1); (case side5 => exact rC (n := t351.length) (c := co31) ((x3 HO353.out BK377.out (by decide) (.int .i64 t369) (.slice Ao52 t370.length co52) (.slice Ao54 t373.length co54)))); (case side6 => exact (Kd.R_reads' HO353.out).2.1); (case side7 => exact rC (n := t354.length) (c := co33) ((x3 HO356.out BK377.out (by decide) (.int .i64 t369) (.slice Ao52 t370.length co52) (.slice Ao54 t373.length co54)))); (case side8 => exact (Kd.R_reads' HO356.out).2.1); rintro e w67 ⟨rfl, hb⟩; refine ⟨_, rfl, ?_⟩; replace HO344 := aM (xB (xH ((x3 HO344.out BK377.out (by decide) (.int .i64 t369) (.slice Ao52 t370.length co52) (.slice Ao54 t373.length co54)))) hb); replace HO347 := aM (xB (xH ((x3 HO347.out BK377.out (by decide) (.int .i64 t369) (.slice Ao52 t370.length co52) (.slice Ao54 t373.length co54)))) hb); replace HO353 := aM (xB (xH ((x3 HO353.out BK377.out (by decide) (.int .i64 t369) (.slice Ao52 t370.length co52) (.slice Ao54 t373.length co54)))) hb); replace HO356 := aM (xB (xH ((x3 HO356.out BK377.out (by decide) (.int .i64 t369) (.slice Ao52 t370.length co52) (.slice Ao54 t373.length co54)))) hb); replace HO362 := aM (xB (xH ((x3 HO362.out BK377.out (by decide) (.int .i64 t369) (.slice Ao52 t370.length co52) (.slice Ao54 t373.length co54)))) hb); replace HO365 := aM (xB (xH ((x3 HO365.out BK377.out (by decide) (.int .i64 t369) (.slice Ao52 t370.length co52) (.slice Ao54 t373.length co54)))) hb); replace HO372 := aM (xB (xH ((x3 HO372.out BK377.out (by decide) (.int .i64 t369) (.slice Ao52 t370.length co52) (.slice Ao54 t373.length co54)))) hb); replace HO375 := aM (xB (xH ((x3 HO375.out BK377.out (by decide) (.int .i64 t369) (.slice Ao52 t370.length co52) (.slice Ao54 t373.length co54)))) hb); replace BK338 := aM (yB (g := gb338) (o := .cells #[.int .i64 a0_0, .slice A0_1 l0_1.length c0_1, .slice A0_2 l0_2.length c0_2] 32 (0, 0)) (by (with_reducible repeat (first | refine yN ?_ _ | refine yD ?_ | refine yA ?_ _)); refine yF ?_ NB338_377.out _; (with_reducible repeat (first | refine yN ?_ _ | refine yD ?_ | refine yA ?_ _)); refine yF ?_ NB338_377.out _; (with_reducible repeat (first | refine yN ?_ _ | refine yD ?_ | refine yA ?_ _)); refine yF ?_ NB338_377.out _; (with_reducible repeat (first | refine yN ?_ _ | refine yD ?_ | refine yA ?_ _)); exact BK338.out) hb); replace BK339 := aM (yB (g := gb339) (o := .cells #[.int .i64 a1_0, .int .i64 a1_1] 47 (0, 0)) (by (with_reducible repeat (first | refine yN ?_ _ | refine yD ?_ | refine yA ?_ _)); refine yF ?_ NB339_377.out _; (with_reducible repeat (first | refine yN ?_ _ | refine yD ?_ | refine yA ?_ _)); refine yF ?_ NB339_377.out _; (with_reducible repeat (first | refine yN ?_ _ | refine yD ?_ | refine yA ?_ _)); refine yF ?_ NB339_377.out _; (with_reducible repeat (first | refine yN ?_ _ | refine yD ?_ | refine yA ?_ _)); exact BK339.out) hb); replace BK358 := aM (yB (g := gb358) (o := .cells #[.int .i64 t350, .slice Ao31 t351.length co31, .slice Ao33 t354.length co33] 24 (0, 0)) (by (with_reducible repeat (first | refine yN ?_ _ | refine yD ?_ | refine yA ?_ _)); refine yF ?_ NB358_377.out _; (with_reducible repeat (first | refine yN ?_ _ | refine yD ?_ | refine yA ?_ _)); refine yF ?_ NB358_377.out _; (with_reducible repeat (first | refine yN ?_ _ | refine yD ?_ | refine yA ?_ _)); refine yF ?_ NB358_377.out _; (with_reducible repeat (first | refine yN ?_ _ | refine yD ?_ | refine yA ?_ _)); exact BK358.out) hb); replace BK366 := aM (yB (g := gb366) (o := .cells #[.int .i64 t359, .slice Ao43 t360.length co43, .slice Ao44 t363.length co44] 24 (0, 0)) (by (with_reducible repeat (first | refine yN ?_ _ | refine yD ?_ | refine yA ?_ _)); refine yF ?_ NB366_377.out _; (with_reducible repeat (first | refine yN ?_ _ | refine yD ?_ | refine yA ?_ _)); refine yF ?_ NB366_377.out _; (with_reducible repeat (first | refine yN ?_ _ | refine yD ?_ | refine yA ?_ _)); refine yF ?_ NB366_377.out _; (with_reducible repeat (first | refine yN ?_ _ | refine yD ?_ | refine yA ?_ _)); exact BK366.out) hb); replace BK377 := aM (yB (g := gb377) (o := .cells #[.int .i64 t369, .slice Ao52 t370.length co52, .slice Ao54 t373.length co54] 24 (0, 0)) (by (with_reducible repeat (first | refine yN ?_ _ | refine yD ?_ | refine yA ?_ _)); refine yP (cs := #[.int .i64 t369, .slice Ao52 t370.length co52, .slice none 0 0]) ?_ 2 _ rfl; (with_reducible repeat (first | refine yN ?_ _ | refine yD ?_ | refine yA ?_ _)); refine yP (cs := #[.int .i64 t369, .slice none 0 0, .slice none 0 0]) ?_ 1 _ rfl; (with_reducible repeat (first | refine yN ?_ _ | refine yD ?_ | refine yA ?_ _)); refine yP (cs := #[.int .i64 0, .slice none 0 0, .slice none 0 0]) ?_ 0 _ rfl; (with_reducible repeat (first | refine yN ?_ _ | refine yD ?_ | refine yA ?_ _)); exact BK377.out) hb); replace HB := aM (zT (zH HB.out) hb); (try clear hb)))
    go_meet
    case rel => exact ⟨_, ((t376 != t357)), (by first | rfl | (simp; done) | (simp [*]; done)), H', ⟨by first | omega | exact Nat.le_refl _⟩, ⟨xH (xM HO353.out (fun _ hk => ⟨hk.2.2.1, ⟨hk.2.2.2.1, ⟨hk.2.2.2.2.1, ⟨hk.2.2.2.2.2.1, hk.2.2.2.2.2.2⟩⟩⟩⟩))⟩, ⟨xH (xM HO356.out (fun _ hk => ⟨hk.2.2.1, ⟨hk.2.2.2.1, ⟨hk.2.2.2.2.1, ⟨hk.2.2.2.2.2.1, hk.2.2.2.2.2.2⟩⟩⟩⟩))⟩, ⟨xH (xM HO362.out (fun _ hk => ⟨hk.2.2.1, ⟨hk.2.2.2.1, ⟨hk.2.2.2.2.1, ⟨hk.2.2.2.2.2.1, hk.2.2.2.2.2.2⟩⟩⟩⟩))⟩, ⟨xH (xM HO365.out (fun _ hk => ⟨hk.2.2.1, ⟨hk.2.2.2.1, ⟨hk.2.2.2.2.1, ⟨hk.2.2.2.2.2.1, hk.2.2.2.2.2.2⟩⟩⟩⟩))⟩, ⟨xH (xM HO372.out (fun _ hk => ⟨hk.2.2.1, ⟨hk.2.2.2.1, ⟨hk.2.2.2.2.1, ⟨hk.2.2.2.2.2.1, hk.2.2.2.2.2.2⟩⟩⟩⟩))⟩, ⟨xH (xM HO375.out (fun _ hk => ⟨hk.2.2.1, ⟨hk.2.2.2.1, ⟨hk.2.2.2.2.1, ⟨hk.2.2.2.2.2.1, hk.2.2.2.2.2.2⟩⟩⟩⟩))⟩, ⟨yH BK338.out⟩, ⟨yH BK339.out⟩, ⟨yH BK358.out⟩, ⟨yH BK366.out⟩, ⟨yH BK377.out⟩, ⟨zH HB.out⟩⟩
   ·replace c57 := Bool.eq_false_iff.mpr c57
    subst c57
    have H1 : (laws_FnExactTakeExact.j0 k t357 t376 true a0_0 l0_1 l0_2 a1_0 a1_1 t350 t351 t354 t359 t360 t363 t369 t370 t373) = some r := by rw [if_neg (show ¬ (false = true) by decide)] at H; exact H
    clear H
    have H := H1
    clear H1
    have H' := aM H
    clear H
    have hnb68 := NB377_338.out
    have hnc68 := NB338_377.out
    have hnb69 := NB377_339.out
    have hnc69 := NB339_377.out
    have hnb70 := NB377_358.out
    have hnc70 := NB358_377.out
    have hnb71 := NB377_366.out
    have hnc71 := NB366_377.out
    have hcz72_0 : w50.cell? ⟨gb377, 0, none⟩ = some (.int .i64 0) := yc BK377.out 0
    have hcz72_1 : w50.cell? ⟨gb377, 1, none⟩ = some (.slice none 0 0) := yc BK377.out 1
    have hcz72_2 : w50.cell? ⟨gb377, 2, none⟩ = some (.slice none 0 0) := yc BK377.out 2
    have hfz72_0 := yZ BK377.out 0
    have hfz72_1 := yZ BK377.out 1
    have hfz72_2 := yZ BK377.out 2
    have hnb73 := NB358_338.out
    have hnc73 := NB338_358.out
    have hnb74 := NB358_339.out
    have hnc74 := NB339_358.out
    have hnb75 := NB358_366.out
    have hnc75 := NB366_358.out
    have hcz76_0 : w50.cell? ⟨gb358, 0, none⟩ = some (.int .i64 t350) := yc BK358.out 0
    have hcz76_1 : w50.cell? ⟨gb358, 1, none⟩ = some (.slice Ao31 t351.length co31) := yc BK358.out 1
    have hcz76_2 : w50.cell? ⟨gb358, 2, none⟩ = some (.slice Ao33 t354.length co33) := yc BK358.out 2
    have hfz76_0 := yZ BK358.out 0
    have hfz76_1 := yZ BK358.out 1
    have hfz76_2 := yZ BK358.out 2
    go_wp2_with (first | ((with_reducible refine gate_callee (f := 13) rfl ?_); refine goesL_ (some 40) rfl rfl Try.func13 (by kernel_rfl) rfl #[.agg #[.int .i64 t369, .slice Ao52 t370.length co52, .slice Ao54 t373.length co54], .agg #[.int .i64 t350, .slice Ao31 t351.length co31, .slice Ao33 t354.length co33]] rfl (by (try simp only [List.map_toArray, List.map_cons, List.map_nil]); first | done | rfl | (simp only [List.length_drop, List.length_take]; rfl)) ?_; (with_reducible refine (laws_eqFree.calls k t369 _ _ t370 _ _ t373 t350 _ _ t351 _ _ t354 false _ ?side1 ?side2 ?side3 ?side4 ?side5 ?side6 ?side7 ?side8 A56.out).mono ?_); (case side1 => exact rC (n := t370.length) (c := co52) ((x3 HO372.out BK377.out (by decide) (.int .i64 t369) (.slice Ao52 t370.length co52) (.slice Ao54 t373.length co54)))); (case side2 => exact (Kd.R_reads' HO372.out).2.1); (case side3 => exact rC (n := t373.length) (c := co54) ((x3 HO375.out BK377.out (by decide) (.int .i64 t369) (.slice Ao52 t370.length co52) (.slice Ao54 t373.length co54)))); (case side4 => exact (Kd.R_reads' HO375.out).2.1); (case side5 => exact rC (n := t351.length) (c := co31) ((x3 HO353.out BK377.out (by decide) (.int .i64 t369) (.slice Ao52 t370.length co52) (.slice Ao54 t373.length co54)))); (case side6 => exact (Kd.R_reads' HO353.out).2.1); (case side7 => exact rC (n := t354.length) (c := co33) ((x3 HO356.out BK377.out (by decide) (.int .i64 t369) (.slice Ao52 t370.length co52) (.slice Ao54 t373.length co54)))); (case side8 => exact (Kd.R_reads' HO356.out).2.1); rintro e w77 ⟨rfl, hb⟩; refine ⟨_, rfl, ?_⟩; replace HO344 := aM (xB (xH ((x3 HO344.out BK377.out (by decide) (.int .i64 t369) (.slice Ao52 t370.length co52) (.slice Ao54 t373.length co54)))) hb); replace HO347 := aM (xB (xH ((x3 HO347.out BK377.out (by decide) (.int .i64 t369) (.slice Ao52 t370.length co52) (.slice Ao54 t373.length co54)))) hb); replace HO353 := aM (xB (xH ((x3 HO353.out BK377.out (by decide) (.int .i64 t369) (.slice Ao52 t370.length co52) (.slice Ao54 t373.length co54)))) hb); replace HO356 := aM (xB (xH ((x3 HO356.out BK377.out (by decide) (.int .i64 t369) (.slice Ao52 t370.length co52) (.slice Ao54 t373.length co54)))) hb); replace HO362 := aM (xB (xH ((x3 HO362.out BK377.out (by decide) (.int .i64 t369) (.slice Ao52 t370.length co52) (.slice Ao54 t373.length co54)))) hb); replace HO365 := aM (xB (xH ((x3 HO365.out BK377.out (by decide) (.int .i64 t369) (.slice Ao52 t370.length co52) (.slice Ao54 t373.length co54)))) hb); replace HO372 := aM (xB (xH ((x3 HO372.out BK377.out (by decide) (.int .i64 t369) (.slice Ao52 t370.length co52) (.slice Ao54 t373.length co54)))) hb); replace HO375 := aM (xB (xH ((x3 HO375.out BK377.out (by decide) (.int .i64 t369) (.slice Ao52 t370.length co52) (.slice Ao54 t373.length co54)))) hb); replace BK338 := aM (yB (g := gb338) (o := .cells #[.int .i64 a0_0, .slice A0_1 l0_1.length c0_1, .slice A0_2 l0_2.length c0_2] 32 (0, 0)) (by (with_reducible repeat (first | refine yN ?_ _ | refine yD ?_ | refine yA ?_ _)); refine yF ?_ NB338_377.out _; (with_reducible repeat (first | refine yN ?_ _ | refine yD ?_ | refine yA ?_ _)); refine yF ?_ NB338_377.out _; (with_reducible repeat (first | refine yN ?_ _ | refine yD ?_ | refine yA ?_ _)); refine yF ?_ NB338_377.out _; (with_reducible repeat (first | refine yN ?_ _ | refine yD ?_ | refine yA ?_ _)); exact BK338.out) hb); replace BK339 := aM (yB (g := gb339) (o := .cells #[.int .i64 a1_0, .int .i64 a1_1] 47 (0, 0)) (by (with_reducible repeat (first | refine yN ?_ _ | refine yD ?_ | refine yA ?_ _)); refine yF ?_ NB339_377.out _; (with_reducible repeat (first | refine yN ?_ _ | refine yD ?_ | refine yA ?_ _)); refine yF ?_ NB339_377.out _; (with_reducible repeat (first | refine yN ?_ _ | refine yD ?_ | refine yA ?_ _)); refine yF ?_ NB339_377.out _; (with_reducible repeat (first | refine yN ?_ _ | refine yD ?_ | refine yA ?_ _)); exact BK339.out) hb); replace BK358 := aM (yB (g := gb358) (o := .cells #[.int .i64 t350, .slice Ao31 t351.length co31, .slice Ao33 t354.length co33] 24 (0, 0)) (by (with_reducible repeat (first | refine yN ?_ _ | refine yD ?_ | refine yA ?_ _)); refine yF ?_ NB358_377.out _; (with_reducible repeat (first | refine yN ?_ _ | refine yD ?_ | refine yA ?_ _)); refine yF ?_ NB358_377.out _; (with_reducible repeat (first | refine yN ?_ _ | refine yD ?_ | refine yA ?_ _)); refine yF ?_ NB358_377.out _; (with_reducible repeat (first | refine yN ?_ _ | refine yD ?_ | refine yA ?_ _)); exact BK358.out) hb); replace BK366 := aM (yB (g := gb366) (o := .cells #[.int .i64 t359, .slice Ao43 t360.length co43, .slice Ao44 t363.length co44] 24 (0, 0)) (by (with_reducible repeat (first | refine yN ?_ _ | refine yD ?_ | refine yA ?_ _)); refine yF ?_ NB366_377.out _; (with_reducible repeat (first | refine yN ?_ _ | refine yD ?_ | refine yA ?_ _)); refine yF ?_ NB366_377.out _; (with_reducible repeat (first | refine yN ?_ _ | refine yD ?_ | refine yA ?_ _)); refine yF ?_ NB366_377.out _; (with_reducible repeat (first | refine yN ?_ _ | refine yD ?_ | refine yA ?_ _)); exact BK366.out) hb); replace BK377 := aM (yB (g := gb377) (o := .cells #[.int .i64 t369, .slice Ao52 t370.length co52, .slice Ao54 t373.length co54] 24 (0, 0)) (by (with_reducible repeat (first | refine yN ?_ _ | refine yD ?_ | refine yA ?_ _)); refine yP (cs := #[.int .i64 t369, .slice Ao52 t370.length co52, .slice none 0 0]) ?_ 2 _ rfl; (with_reducible repeat (first | refine yN ?_ _ | refine yD ?_ | refine yA ?_ _)); refine yP (cs := #[.int .i64 t369, .slice none 0 0, .slice none 0 0]) ?_ 1 _ rfl; (with_reducible repeat (first | refine yN ?_ _ | refine yD ?_ | refine yA ?_ _)); refine yP (cs := #[.int .i64 0, .slice none 0 0, .slice none 0 0]) ?_ 0 _ rfl; (with_reducible repeat (first | refine yN ?_ _ | refine yD ?_ | refine yA ?_ _)); exact BK377.out) hb); replace HB := aM (zT (zH HB.out) hb); (try clear hb)))
    go_meet
    case rel => exact ⟨_, (true), (by first | rfl | (simp; done) | (simp [*]; done)), H', ⟨by first | omega | exact Nat.le_refl _⟩, ⟨xH (xM HO353.out (fun _ hk => ⟨hk.2.2.1, ⟨hk.2.2.2.1, ⟨hk.2.2.2.2.1, ⟨hk.2.2.2.2.2.1, hk.2.2.2.2.2.2⟩⟩⟩⟩))⟩, ⟨xH (xM HO356.out (fun _ hk => ⟨hk.2.2.1, ⟨hk.2.2.2.1, ⟨hk.2.2.2.2.1, ⟨hk.2.2.2.2.2.1, hk.2.2.2.2.2.2⟩⟩⟩⟩))⟩, ⟨xH (xM HO362.out (fun _ hk => ⟨hk.2.2.1, ⟨hk.2.2.2.1, ⟨hk.2.2.2.2.1, ⟨hk.2.2.2.2.2.1, hk.2.2.2.2.2.2⟩⟩⟩⟩))⟩, ⟨xH (xM HO365.out (fun _ hk => ⟨hk.2.2.1, ⟨hk.2.2.2.1, ⟨hk.2.2.2.2.1, ⟨hk.2.2.2.2.2.1, hk.2.2.2.2.2.2⟩⟩⟩⟩))⟩, ⟨xH (xM HO372.out (fun _ hk => ⟨hk.2.2.1, ⟨hk.2.2.2.1, ⟨hk.2.2.2.2.1, ⟨hk.2.2.2.2.2.1, hk.2.2.2.2.2.2⟩⟩⟩⟩))⟩, ⟨xH (xM HO375.out (fun _ hk => ⟨hk.2.2.1, ⟨hk.2.2.2.1, ⟨hk.2.2.2.2.1, ⟨hk.2.2.2.2.2.1, hk.2.2.2.2.2.2⟩⟩⟩⟩))⟩, ⟨yH BK338.out⟩, ⟨yH BK339.out⟩, ⟨yH BK358.out⟩, ⟨yH BK366.out⟩, ⟨yH BK377.out⟩, ⟨zH HB.out⟩⟩
  case rest =>
   clear HC16
   (try clear c1); (try clear p2); (try clear c3); (try clear c5); (try clear c6); (try clear c7); (try clear c13); (try clear c30); (try clear c33); (try clear c57); (try clear c58); (try clear c59); (try clear c60); (try clear c61); (try clear c63); (try clear c64); (try clear c65); (try clear c68); (try clear c69); (try clear c70); (try clear c71); (try clear c73); (try clear c74); (try clear c75); (try clear hcz62_0); (try clear hcz62_1); (try clear hcz62_2); (try clear hcz66_0); (try clear hcz66_1); (try clear hcz66_2); (try clear hcz72_0); (try clear hcz72_1); (try clear hcz72_2); (try clear hcz76_0); (try clear hcz76_1); (try clear hcz76_2); (try clear hfz62_0); (try clear hfz62_1); (try clear hfz62_2); (try clear hfz66_0); (try clear hfz66_1); (try clear hfz66_2); (try clear hfz72_0); (try clear hfz72_1); (try clear hfz72_2); (try clear hfz76_0); (try clear hfz76_1); (try clear hfz76_2)
   obtain ⟨kq, x46_15, rfl, HA, HJ15, p0', p1', p2', p3', p4', p5', BK338, BK339, BK358, BK366, BK377, HB⟩ := hcut
   cases kq with
   | zero => exact absurd HA.out (fun h_ => by change none = some _ at h_; cases h_)
   | succ kj15 =>
    have H := HA.out
    clear HA
    simp only [laws_FnExactTakeExact.j0] at H
    by_cases c78 : x46_15 = true
    ·subst c78
     have H1 : (some false) = some r := by rw [if_pos rfl] at H; exact H
     clear H
     have H := H1
     clear H1
     exact absurd (H.trans (congrArg some HR_.out)) (by decide)
    ·replace c78 := Bool.eq_false_iff.mpr c78
     subst c78
     have H1 : ((laws_toFree.f kj15 a0_0 l0_1 l0_2).bind fun bt379 => ((laws_eqFree.f kj15 t359 t360 t363 bt379.1 bt379.2.1 bt379.2.2).bind fun t386 => (if t386 = true then ((laws_markFree.f kj15 t359 t360 t363 1).bind fun bt387 => (if bt387.1 < 0 then (laws_FnExactTakeExact.j1 kj15 t357 true a0_0 l0_1 l0_2 a1_0 a1_1 t350 t351 t354 t369 t370 t373) else ((laws_eqFree.f kj15 t369 t370 t373 t350 t351 t354).bind fun t390 => (if t390 = true then (laws_FnExactTakeExact.j1 kj15 t357 (t376 != t357) a0_0 l0_1 l0_2 a1_0 a1_1 t350 t351 t354 t369 t370 t373) else (laws_FnExactTakeExact.j1 kj15 t357 true a0_0 l0_1 l0_2 a1_0 a1_1 t350 t351 t354 t369 t370 t373))))) else (some false)))) = some r := by rw [if_neg (show ¬ (false = true) by decide)] at H; exact H
     clear H
     have H := H1
     clear H1
     replace H := Option.bind_eq_some_iff.mp H
     obtain ⟨⟨t379, t380, t383⟩, A790, H⟩ := H
     replace H : ((laws_eqFree.f kj15 t359 t360 t363 t379 t380 t383).bind fun t386 => (if t386 = true then ((laws_markFree.f kj15 t359 t360 t363 1).bind fun bt387 => (if bt387.1 < 0 then (laws_FnExactTakeExact.j1 kj15 t357 true a0_0 l0_1 l0_2 a1_0 a1_1 t350 t351 t354 t369 t370 t373) else ((laws_eqFree.f kj15 t369 t370 t373 t350 t351 t354).bind fun t390 => (if t390 = true then (laws_FnExactTakeExact.j1 kj15 t357 (t376 != t357) a0_0 l0_1 l0_2 a1_0 a1_1 t350 t351 t354 t369 t370 t373) else (laws_FnExactTakeExact.j1 kj15 t357 true a0_0 l0_1 l0_2 a1_0 a1_1 t350 t351 t354 t369 t370 t373))))) else (some false))) = some r := H
     have A79 := aM A790
     clear A790
     replace H := Option.bind_eq_some_iff.mp H
     obtain ⟨t386, A800, H⟩ := H
     replace H : (if t386 = true then ((laws_markFree.f kj15 t359 t360 t363 1).bind fun bt387 => (if bt387.1 < 0 then (laws_FnExactTakeExact.j1 kj15 t357 true a0_0 l0_1 l0_2 a1_0 a1_1 t350 t351 t354 t369 t370 t373) else ((laws_eqFree.f kj15 t369 t370 t373 t350 t351 t354).bind fun t390 => (if t390 = true then (laws_FnExactTakeExact.j1 kj15 t357 (t376 != t357) a0_0 l0_1 l0_2 a1_0 a1_1 t350 t351 t354 t369 t370 t373) else (laws_FnExactTakeExact.j1 kj15 t357 true a0_0 l0_1 l0_2 a1_0 a1_1 t350 t351 t354 t369 t370 t373))))) else (some false)) = some r := H
     have A80 := aM A800
     clear A800
     by_cases c81 : t386 = true
     ·subst c81
      have H1 : ((laws_markFree.f kj15 t359 t360 t363 1).bind fun bt387 => (if bt387.1 < 0 then (laws_FnExactTakeExact.j1 kj15 t357 true a0_0 l0_1 l0_2 a1_0 a1_1 t350 t351 t354 t369 t370 t373) else ((laws_eqFree.f kj15 t369 t370 t373 t350 t351 t354).bind fun t390 => (if t390 = true then (laws_FnExactTakeExact.j1 kj15 t357 (t376 != t357) a0_0 l0_1 l0_2 a1_0 a1_1 t350 t351 t354 t369 t370 t373) else (laws_FnExactTakeExact.j1 kj15 t357 true a0_0 l0_1 l0_2 a1_0 a1_1 t350 t351 t354 t369 t370 t373))))) = some r := by rw [if_pos rfl] at H; exact H
      clear H
      have H := H1
      clear H1
      replace H := Option.bind_eq_some_iff.mp H
      obtain ⟨⟨t387, t388, t389⟩, A820, H⟩ := H
      replace H : (if t387 < 0 then (laws_FnExactTakeExact.j1 kj15 t357 true a0_0 l0_1 l0_2 a1_0 a1_1 t350 t351 t354 t369 t370 t373) else ((laws_eqFree.f kj15 t369 t370 t373 t350 t351 t354).bind fun t390 => (if t390 = true then (laws_FnExactTakeExact.j1 kj15 t357 (t376 != t357) a0_0 l0_1 l0_2 a1_0 a1_1 t350 t351 t354 t369 t370 t373) else (laws_FnExactTakeExact.j1 kj15 t357 true a0_0 l0_1 l0_2 a1_0 a1_1 t350 t351 t354 t369 t370 t373)))) = some r := H
      have A82 := aM A820
      clear A820
      have HC83 := aM H
      clear H
      try go_wp2
      replace p0' := aM (xD p0'.out)
      replace p1' := aM (xD p1'.out)
      replace p2' := aM (xD p2'.out)
      replace p3' := aM (xD p3'.out)
      replace p4' := aM (xD p4'.out)
      replace p5' := aM (xD p5'.out)
      replace BK338 := aM (yD BK338.out)
      replace BK339 := aM (yD BK339.out)
      replace BK358 := aM (yD BK358.out)
      replace BK366 := aM (yD BK366.out)
      replace BK377 := aM (yD BK377.out)
      replace HB := aM (zD HB.out)
      refine start_ (n := 5) (S := fun w' => w'.cell? ⟨gb366, 0, none⟩ = some (.int .i64 t359) ∧ w'.cell? ⟨gb366, 1, none⟩ = some (.slice Ao43 t360.length co43) ∧ w'.cell? ⟨gb366, 2, none⟩ = some (.slice Ao44 t363.length co44) ∧ w'.cell? ⟨gb338, 0, none⟩ = some (.int .i64 a0_0) ∧ w'.cell? ⟨gb338, 1, none⟩ = some (.slice A0_1 l0_1.length c0_1) ∧ w'.cell? ⟨gb338, 2, none⟩ = some (.slice A0_2 l0_2.length c0_2)) (ds := []) #[fF,fF,fF,fF,fF] (by kernel_rfl) rfl rfl ⟨yc BK366.out 0, yc BK366.out 1, yc BK366.out 2, yc BK338.out 0, yc BK338.out 1, yc BK338.out 2⟩ (fun hHeld => ?_)
      generalize wc.drew = w84 at p0' p1' p2' p3' p4' p5' BK338 BK339 BK358 BK366 BK377 HB hHeld ⊢
      refine take_ (i := 0) (N := some 47) (v := ?_) (a' := ?_) #[tT,fF,fF,fF,fF] rfl rfl (by kernel_rfl) (fun _ _ _ h => h) (Or.inl ⟨by rfl, ?_⟩) hHeld ?_ ?_
      rotate_left
      ·rintro w' ⟨s0, s1, s2, s3, s4, s5⟩
       go_simp
       with_reducible rfl
      rotate_left
      ·simp only [Act.put, qA, qB, qC, i64_w, i32_w]
       rfl
      refine take_ (i := 1) (N := some 48) (v := ?_) (a' := ?_) #[tT,tT,fF,fF,fF] rfl rfl (by kernel_rfl) (fun _ _ _ h => h) (Or.inl ⟨by rfl, ?_⟩) hHeld ?_ ?_
      rotate_left
      ·rintro w' ⟨s0, s1, s2, s3, s4, s5⟩
       go_simp
       with_reducible rfl
      rotate_left
      ·simp only [Act.put, qA, qB, qC, i64_w, i32_w]
       rfl
      refine one_ (i := 2) (N := some 49) #[tT,tT,tT,fF,fF] rfl rfl (by kernel_rfl) (by decide) (fun K hK => ?_)
      refine gS Try.func18 (by kernel_rfl) rfl #[.agg #[.int .i64 a0_0, .slice A0_1 l0_1.length c0_1, .slice A0_2 l0_2.length c0_2]] (by rfl) rfl rfl ?_
      with_reducible refine (laws_toFree.calls kj15 a0_0 _ _ l0_1 _ _ l0_2 t379 t380 t383 _ ?side1 ?side2 ?side3 ?side4 A79.out).mono ?_
      (case side1 => exact cK HR0_1.out HB.out)
      (case side2 => exact HC0_1.out)
      (case side3 => exact cK HR0_2.out HB.out)
      (case side4 => exact HC0_2.out)
      rintro e w85 ⟨v381, v384, rfl, ho0, ho1, hb⟩
      refine ⟨_, rfl, ?_⟩
      have HO382 := aM (xL (Kd.R_new' (Kd.R_new' (Kd.R_new' (Kd.R_new' (Kd.R_new' (Kd.R_new' ho0 (Kd.R_lt (xH p0'.out))) (Kd.R_lt (xH p1'.out))) (Kd.R_lt (xH p2'.out))) (Kd.R_lt (xH p3'.out))) (Kd.R_lt (xH p4'.out))) (Kd.R_lt (xH p5'.out))) (zZ (zH HB.out)))
      have HO385 := aM (xL (Kd.R_new' (Kd.R_new' (Kd.R_new' (Kd.R_new' (Kd.R_new' (Kd.R_new' ho1 (Kd.R_lt (xH p0'.out))) (Kd.R_lt (xH p1'.out))) (Kd.R_lt (xH p2'.out))) (Kd.R_lt (xH p3'.out))) (Kd.R_lt (xH p4'.out))) (Kd.R_lt (xH p5'.out))) (zZ (zH HB.out)))
      replace p0' := aM (xM (Kd.R_told (Kd.R_told (Kd.R_old (xH p0'.out) hb) (Kd.R_base ho0)) (Kd.R_base ho1)) (fun _ h_ => h_.1))
      replace p1' := aM (xM (Kd.R_told (Kd.R_told (Kd.R_old (xH p1'.out) hb) (Kd.R_base ho0)) (Kd.R_base ho1)) (fun _ h_ => h_.1))
      replace p2' := aM (xM (Kd.R_told (Kd.R_told (Kd.R_old (xH p2'.out) hb) (Kd.R_base ho0)) (Kd.R_base ho1)) (fun _ h_ => h_.1))
      replace p3' := aM (xM (Kd.R_told (Kd.R_told (Kd.R_old (xH p3'.out) hb) (Kd.R_base ho0)) (Kd.R_base ho1)) (fun _ h_ => h_.1))
      replace p4' := aM (xM (Kd.R_told (Kd.R_told (Kd.R_old (xH p4'.out) hb) (Kd.R_base ho0)) (Kd.R_base ho1)) (fun _ h_ => h_.1))
      replace p5' := aM (xM (Kd.R_told (Kd.R_told (Kd.R_old (xH p5'.out) hb) (Kd.R_base ho0)) (Kd.R_base ho1)) (fun _ h_ => h_.1))
      replace BK338 := yK BK338.out hb
      replace BK339 := yK BK339.out hb
      replace BK358 := yK BK358.out hb
      replace BK366 := yK BK366.out hb
      replace BK377 := yK BK377.out hb
      replace HB := aM (zT (zH HB.out) hb)
      (try clear hb); (try clear ho0); (try clear ho1)
      obtain ⟨Ao86, co86, eo86⟩ := Kd.R_slice HO382.out
      (first | subst eo86 | obtain ⟨rfl, rfl⟩ := eI eo86)
      obtain ⟨Ao87, co87, eo87⟩ := Kd.R_slice HO385.out
      (first | subst eo87 | obtain ⟨rfl, rfl⟩ := eI eo87)
      refine hK.out _ _ ⟨yc BK366.out 0, yc BK366.out 1, yc BK366.out 2, yc BK338.out 0, yc BK338.out 1, yc BK338.out 2⟩ (fun hHeld => ?_)
      clear hK K
      refine norm_ (a' := ?_) ?_ ?_
      rotate_left
      ·show Act.put _ (some 49) _ = _
       simp only [Act.put, qA, qB, qC, i64_w, i32_w]
       rfl
      refine one_ (i := 3) (N := some 50) #[tT,tT,tT,tT,fF] rfl rfl (by kernel_rfl) (by decide) (fun K hK => ?_)
      refine gS Try.func13 (by kernel_rfl) rfl #[.agg #[.int .i64 t359, .slice Ao43 t360.length co43, .slice Ao44 t363.length co44], .agg #[.int .i64 t379, .slice Ao86 t380.length co86, .slice Ao87 t383.length co87]] (by rfl) rfl rfl ?_
      with_reducible refine (laws_eqFree.calls kj15 t359 _ _ t360 _ _ t363 t379 _ _ t380 _ _ t383 true _ ?side1 ?side2 ?side3 ?side4 ?side5 ?side6 ?side7 ?side8 A80.out).mono ?_
      (case side1 => repeat (first | exact (Kd.R_reads' p2'.out).2.2 | (with_reducible refine cA ?_ _) | (with_reducible refine cN ?_ _) | (with_reducible refine cD ?_)))
      (case side2 => exact (Kd.R_reads' p2'.out).2.1)
      (case side3 => repeat (first | exact (Kd.R_reads' p3'.out).2.2 | (with_reducible refine cA ?_ _) | (with_reducible refine cN ?_ _) | (with_reducible refine cD ?_)))
      (case side4 => exact (Kd.R_reads' p3'.out).2.1)
      (case side5 => repeat (first | exact (Kd.R_reads' HO382.out).2.2 | (with_reducible refine cA ?_ _) | (with_reducible refine cN ?_ _) | (with_reducible refine cD ?_)))
      (case side6 => exact (Kd.R_reads' HO382.out).2.1)
      (case side7 => repeat (first | exact (Kd.R_reads' HO385.out).2.2 | (with_reducible refine cA ?_ _) | (with_reducible refine cN ?_ _) | (with_reducible refine cD ?_)))
      (case side8 => exact (Kd.R_reads' HO385.out).2.1)
      rintro e w88 ⟨rfl, hb⟩
      refine ⟨_, rfl, ?_⟩
      replace p0' := xK p0'.out hb
      replace p1' := xK p1'.out hb
      replace p2' := xK p2'.out hb
      replace p3' := xK p3'.out hb
      replace p4' := xK p4'.out hb
      replace p5' := xK p5'.out hb
      replace HO382 := xK HO382.out hb
      replace HO385 := xK HO385.out hb
      replace BK338 := yK BK338.out hb
      replace BK339 := yK BK339.out hb
      replace BK358 := yK BK358.out hb
      replace BK366 := yK BK366.out hb
      replace BK377 := yK BK377.out hb
      replace HB := aM (zT (zH HB.out) hb)
      (try clear hb)
      refine hK.out _ _ ⟨yc BK366.out 0, yc BK366.out 1, yc BK366.out 2, yc BK338.out 0, yc BK338.out 1, yc BK338.out 2⟩ (fun hHeld => ?_)
      clear hK K
      refine norm_ (a' := ?_) ?_ ?_
      rotate_left
      ·show Act.put _ (some 50) _ = _
       simp only [Act.put, qA, qB, qC, i64_w, i32_w]
       rfl
      refine pure_ (i := 4) (N := some 51) (v := ?_) (a' := ?_) #[tT,tT,tT,tT,tT] rfl rfl (by kernel_rfl) (fun _ _ _ h => h) (Or.inl ⟨by rfl, ?_⟩) ?_ ?_
      rotate_left
      ·intro w'
       go_simp
       with_reducible rfl
      rotate_left
      ·simp only [Act.put, qA, qB, qC, i64_w, i32_w]
       rfl
      refine done_ (by kernel_rfl) ?_
      have hnb89 := NB366_338.out
      have hnc89 := NB338_366.out
      have hnb90 := NB366_339.out
      have hnc90 := NB339_366.out
      have hnb91 := NB366_358.out
      have hnc91 := NB358_366.out
      have hnb92 := NB366_377.out
      have hnc92 := NB377_366.out
      have hcz93_0 : w88.cell? ⟨gb366, 0, none⟩ = some (.int .i64 t359) := yc BK366.out 0
      have hcz93_1 : w88.cell? ⟨gb366, 1, none⟩ = some (.slice Ao43 t360.length co43) := yc BK366.out 1
      have hcz93_2 : w88.cell? ⟨gb366, 2, none⟩ = some (.slice Ao44 t363.length co44) := yc BK366.out 2
      have hfz93_0 := yZ BK366.out 0
      have hfz93_1 := yZ BK366.out 1
      have hfz93_2 := yZ BK366.out 2
      go_upto_region 14 with (first | ((with_reducible refine gate_callee (f := 14) rfl ?_); refine goesL_ (some 54) rfl rfl Try.func14 (by kernel_rfl) rfl #[.agg #[.int .i64 t359, .slice Ao43 t360.length co43, .slice Ao44 t363.length co44], .int .i64 1] rfl (by (try simp only [List.map_toArray, List.map_cons, List.map_nil]); first | done | rfl | (simp only [List.length_drop, List.length_take]; rfl)) ?_; (with_reducible refine (laws_markFree.calls kj15 t359 (fun k_ => some k_ = oB Ao43 t360.length co43) (.slice Ao43 t360.length co43) t360 (fun k_ => some k_ = oB Ao44 t363.length co44) (.slice Ao44 t363.length co44) t363 1 t387 t388 t389 w _ ?side1 ?side2 ?side3 ?side4 ?side5 A82.out).mono ?_); (case side1 => repeat (first | (with_reducible first | exact HB.out | apply zA | apply zN | apply zD | refine zS ?_ GE338.out | refine zS ?_ GE339.out | refine zS ?_ GE358.out | refine zS ?_ GE366.out | refine zS ?_ GE377.out) | exact HB.out)); (case side2 => exact Kd.R_tight rfl p2'.out); (case side3 => exact fun k_ e_ => (p2'.out.1 k_ e_.symm).1.1.2.2.1); (case side4 => exact Kd.R_tight rfl p3'.out); (case side5 => exact fun k_ e_ => (p3'.out.1 k_ e_.symm).1.1.2.2.1); rintro e w94 ⟨rfl, hy0, hy1, hb, hkp⟩; refine ⟨_, rfl, ?_⟩; replace p0' := aM (xM (ok' := fun k_ => some k_ ≠ oB Ao33 t354.length co33 ∧ some k_ ≠ oB Ao43 t360.length co43 ∧ some k_ ≠ oB Ao44 t363.length co44 ∧ some k_ ≠ oB Ao52 t370.length co52 ∧ some k_ ≠ oB Ao54 t373.length co54 ∧ some k_ ≠ oB Ao86 t380.length co86 ∧ some k_ ≠ oB Ao87 t383.length co87) (Kd.R_keptB (p0'.out) hkp (fun k_ hk_ hs_ => Or.elim hs_ (fun e_ => (hk_.1.1.2.1) e_) (fun e_ => (hk_.1.1.2.2.1) e_))) (fun k_ hk_ => ⟨hk_.1.1.1.1, hk_.1.1.1.2.1, hk_.1.1.1.2.2.1, hk_.1.1.1.2.2.2.1, hk_.1.1.1.2.2.2.2, hk_.1.1.2, hk_.1.2⟩)); replace p1' := aM (xM (ok' := fun k_ => some k_ ≠ oB Ao31 t351.length co31 ∧ some k_ ≠ oB Ao43 t360.length co43 ∧ some k_ ≠ oB Ao44 t363.length co44 ∧ some k_ ≠ oB Ao52 t370.length co52 ∧ some k_ ≠ oB Ao54 t373.length co54 ∧ some k_ ≠ oB Ao86 t380.length co86 ∧ some k_ ≠ oB Ao87 t383.length co87) (Kd.R_keptB (p1'.out) hkp (fun k_ hk_ hs_ => Or.elim hs_ (fun e_ => (hk_.1.1.2.1) e_) (fun e_ => (hk_.1.1.2.2.1) e_))) (fun k_ hk_ => ⟨hk_.1.1.1.1, hk_.1.1.1.2.1, hk_.1.1.1.2.2.1, hk_.1.1.1.2.2.2.1, hk_.1.1.1.2.2.2.2, hk_.1.1.2, hk_.1.2⟩)); replace p4' := aM (xM (ok' := fun k_ => some k_ ≠ oB Ao31 t351.length co31 ∧ some k_ ≠ oB Ao33 t354.length co33 ∧ some k_ ≠ oB Ao43 t360.length co43 ∧ some k_ ≠ oB Ao44 t363.length co44 ∧ some k_ ≠ oB Ao54 t373.length co54 ∧ some k_ ≠ oB Ao86 t380.length co86 ∧ some k_ ≠ oB Ao87 t383.length co87) (Kd.R_keptB (p4'.out) hkp (fun k_ hk_ hs_ => Or.elim hs_ (fun e_ => (hk_.1.1.2.2.1) e_) (fun e_ => (hk_.1.1.2.2.2.1) e_))) (fun k_ hk_ => ⟨hk_.1.1.1.1, hk_.1.1.1.2.1, hk_.1.1.1.2.2.1, hk_.1.1.1.2.2.2.1, hk_.1.1.1.2.2.2.2, hk_.1.1.2, hk_.1.2⟩)); replace p5' := aM (xM (ok' := fun k_ => some k_ ≠ oB Ao31 t351.length co31 ∧ some k_ ≠ oB Ao33 t354.length co33 ∧ some k_ ≠ oB Ao43 t360.length co43 ∧ some k_ ≠ oB Ao44 t363.length co44 ∧ some k_ ≠ oB Ao52 t370.length co52 ∧ some k_ ≠ oB Ao86 t380.length co86 ∧ some k_ ≠ oB Ao87 t383.length co87) (Kd.R_keptB (p5'.out) hkp (fun k_ hk_ hs_ => Or.elim hs_ (fun e_ => (hk_.1.1.2.2.1) e_) (fun e_ => (hk_.1.1.2.2.2.1) e_))) (fun k_ hk_ => ⟨hk_.1.1.1.1, hk_.1.1.1.2.1, hk_.1.1.1.2.2.1, hk_.1.1.1.2.2.2.1, hk_.1.1.1.2.2.2.2, hk_.1.1.2, hk_.1.2⟩)); replace BK338 := aM (blk_kept BK338.out hkp (fun hs_ => Or.elim hs_ (fun e_ => (fun e_ => (Kd.R_ne p2'.out BK338.out (by decide)) e_) e_) (fun e_ => (fun e_ => (Kd.R_ne p3'.out BK338.out (by decide)) e_) e_))); replace BK339 := aM (blk_kept BK339.out hkp (fun hs_ => Or.elim hs_ (fun e_ => (fun e_ => (Kd.R_ne p2'.out BK339.out (by decide)) e_) e_) (fun e_ => (fun e_ => (Kd.R_ne p3'.out BK339.out (by decide)) e_) e_))); replace BK358 := aM (blk_kept BK358.out hkp (fun hs_ => Or.elim hs_ (fun e_ => (fun e_ => (Kd.R_ne p2'.out BK358.out (by decide)) e_) e_) (fun e_ => (fun e_ => (Kd.R_ne p3'.out BK358.out (by decide)) e_) e_))); replace BK366 := aM (blk_kept BK366.out hkp (fun hs_ => Or.elim hs_ (fun e_ => (fun e_ => (Kd.R_ne p2'.out BK366.out (by decide)) e_) e_) (fun e_ => (fun e_ => (Kd.R_ne p3'.out BK366.out (by decide)) e_) e_))); replace BK377 := aM (blk_kept BK377.out hkp (fun hs_ => Or.elim hs_ (fun e_ => (fun e_ => (Kd.R_ne p2'.out BK377.out (by decide)) e_) e_) (fun e_ => (fun e_ => (Kd.R_ne p3'.out BK377.out (by decide)) e_) e_))); replace p2' := aM (Kd.R_reok rfl hy0 (fun k_ e_ => p2'.out.1 k_ e_)); replace p3' := aM (Kd.R_reok rfl hy1 (fun k_ e_ => p3'.out.1 k_ e_)); replace HO382 := aM (xM (ok' := fun k_ => some k_ ≠ oB Ao31 t351.length co31 ∧ some k_ ≠ oB Ao33 t354.length co33 ∧ some k_ ≠ oB Ao43 t360.length co43 ∧ some k_ ≠ oB Ao44 t363.length co44 ∧ some k_ ≠ oB Ao52 t370.length co52 ∧ some k_ ≠ oB Ao54 t373.length co54 ∧ some k_ ≠ oB Ao87 t383.length co87) (Kd.R_keptB (HO382.out) hkp (fun k_ hk_ hs_ => Or.elim hs_ (fun e_ => (hk_.1.1.1.2) e_) (fun e_ => (hk_.1.1.2) e_))) (fun k_ hk_ => ⟨hk_.1.1.1.1.1.1.2, hk_.1.1.1.1.1.2, hk_.1.1.1.1.2, hk_.1.1.1.2, hk_.1.1.2, hk_.1.2, hk_.1.1.1.1.1.1.1⟩)); replace HO385 := aM (xM (ok' := fun k_ => some k_ ≠ oB Ao31 t351.length co31 ∧ some k_ ≠ oB Ao33 t354.length co33 ∧ some k_ ≠ oB Ao43 t360.length co43 ∧ some k_ ≠ oB Ao44 t363.length co44 ∧ some k_ ≠ oB Ao52 t370.length co52 ∧ some k_ ≠ oB Ao54 t373.length co54 ∧ some k_ ≠ oB Ao86 t380.length co86) (Kd.R_keptB (HO385.out) hkp (fun k_ hk_ hs_ => Or.elim hs_ (fun e_ => (hk_.1.1.1.2) e_) (fun e_ => (hk_.1.1.2) e_))) (fun k_ hk_ => ⟨hk_.1.1.1.1.1.1.2, hk_.1.1.1.1.1.2, hk_.1.1.1.1.2, hk_.1.1.1.2, hk_.1.1.2, hk_.1.2, hk_.1.1.1.1.1.1.1⟩)); replace HB := aM (hb); (try clear hb); (try clear hkp); (try clear hy0); (try clear hy1)))
      (try simp only [Act.put, qA, qB, qC])
      go_cut [67] (fun v67 wc => ∃ (kq : Nat) (x67_82 : Bool), v67 = .bool x67_82 ∧ Aside0 (laws_FnExactTakeExact.j1 kq t357 x67_82 a0_0 l0_1 l0_2 a1_0 a1_1 t350 t351 t354 t369 t370 t373 = some r) ∧ Aside0 (kq ≤ kj15) ∧ Aside0 (Kd.R k49 49 wc w.heap.size (fun k_ => some k_ ≠ oB Ao33 t354.length co33 ∧ some k_ ≠ oB Ao43 t360.length co43 ∧ some k_ ≠ oB Ao44 t363.length co44 ∧ some k_ ≠ oB Ao52 t370.length co52 ∧ some k_ ≠ oB Ao54 t373.length co54) (.slice Ao31 t351.length co31) t351) ∧ Aside0 (Kd.R k49 49 wc w.heap.size (fun k_ => some k_ ≠ oB Ao31 t351.length co31 ∧ some k_ ≠ oB Ao43 t360.length co43 ∧ some k_ ≠ oB Ao44 t363.length co44 ∧ some k_ ≠ oB Ao52 t370.length co52 ∧ some k_ ≠ oB Ao54 t373.length co54) (.slice Ao33 t354.length co33) t354) ∧ Aside0 (Kd.R k49 49 wc w.heap.size (fun k_ => some k_ ≠ oB Ao31 t351.length co31 ∧ some k_ ≠ oB Ao33 t354.length co33 ∧ some k_ ≠ oB Ao44 t363.length co44 ∧ some k_ ≠ oB Ao52 t370.length co52 ∧ some k_ ≠ oB Ao54 t373.length co54) (.slice Ao43 t360.length co43) t388) ∧ Aside0 (Kd.R k49 49 wc w.heap.size (fun k_ => some k_ ≠ oB Ao31 t351.length co31 ∧ some k_ ≠ oB Ao33 t354.length co33 ∧ some k_ ≠ oB Ao43 t360.length co43 ∧ some k_ ≠ oB Ao52 t370.length co52 ∧ some k_ ≠ oB Ao54 t373.length co54) (.slice Ao44 t363.length co44) t389) ∧ Aside0 (Kd.R k49 49 wc w.heap.size (fun k_ => some k_ ≠ oB Ao31 t351.length co31 ∧ some k_ ≠ oB Ao33 t354.length co33 ∧ some k_ ≠ oB Ao43 t360.length co43 ∧ some k_ ≠ oB Ao44 t363.length co44 ∧ some k_ ≠ oB Ao54 t373.length co54) (.slice Ao52 t370.length co52) t370) ∧ Aside0 (Kd.R k49 49 wc w.heap.size (fun k_ => some k_ ≠ oB Ao31 t351.length co31 ∧ some k_ ≠ oB Ao33 t354.length co33 ∧ some k_ ≠ oB Ao43 t360.length co43 ∧ some k_ ≠ oB Ao44 t363.length co44 ∧ some k_ ≠ oB Ao52 t370.length co52) (.slice Ao54 t373.length co54) t373) ∧ Aside0 (wc.heap[gb338]? = some (.cells #[.int .i64 a0_0, (.slice A0_1 l0_1.length c0_1), (.slice A0_2 l0_2.length c0_2)] 32 (0, 0))) ∧ Aside0 (wc.heap[gb339]? = some (.cells #[.int .i64 a1_0, .int .i64 a1_1] 47 (0, 0))) ∧ Aside0 (wc.heap[gb358]? = some (.cells #[.int .i64 t350, (.slice Ao31 t351.length co31), (.slice Ao33 t354.length co33)] 24 (0, 0))) ∧ Aside0 (wc.heap[gb366]? = some (.cells #[.int .i64 t359, (.slice Ao43 t360.length co43), (.slice Ao44 t363.length co44)] 24 (0, 0))) ∧ Aside0 (wc.heap[gb377]? = some (.cells #[.int .i64 t369, (.slice Ao52 t370.length co52), (.slice Ao54 t373.length co54)] 24 (0, 0))) ∧ Aside0 (Below w.heap.size w wc))
      case first =>
       have H := HC83.out
       clear HC83
       by_cases c95 : t387 < 0
       ·rw [if_pos c95] at H
        have c95b0 : decide (t387 < 0) = true := decide_eq_true c95
        clear c95
        (first | rw [c95b0] | (simp only [i64_w, i32_w]; rw [c95b0]) | skip)
        have H' := aM H
        clear H
        go_wp2
        go_meet
        case rel => exact ⟨_, (true), (by first | rfl | (simp; done) | (simp [*]; done)), H', ⟨by have := HJ15.out; first | omega | exact Nat.le_refl _⟩, ⟨xH (xM p0'.out (fun _ hk => ⟨hk.1, ⟨hk.2.1, ⟨hk.2.2.1, ⟨hk.2.2.2.1, hk.2.2.2.2.1⟩⟩⟩⟩))⟩, ⟨xH (xM p1'.out (fun _ hk => ⟨hk.1, ⟨hk.2.1, ⟨hk.2.2.1, ⟨hk.2.2.2.1, hk.2.2.2.2.1⟩⟩⟩⟩))⟩, ⟨xH (xM p2'.out (fun _ hk => ⟨hk.1.1.1, ⟨hk.1.1.2.1, ⟨hk.1.1.2.2.1, ⟨hk.1.1.2.2.2.1, hk.1.1.2.2.2.2⟩⟩⟩⟩))⟩, ⟨xH (xM p3'.out (fun _ hk => ⟨hk.1.1.1, ⟨hk.1.1.2.1, ⟨hk.1.1.2.2.1, ⟨hk.1.1.2.2.2.1, hk.1.1.2.2.2.2⟩⟩⟩⟩))⟩, ⟨xH (xM p4'.out (fun _ hk => ⟨hk.1, ⟨hk.2.1, ⟨hk.2.2.1, ⟨hk.2.2.2.1, hk.2.2.2.2.1⟩⟩⟩⟩))⟩, ⟨xH (xM p5'.out (fun _ hk => ⟨hk.1, ⟨hk.2.1, ⟨hk.2.2.1, ⟨hk.2.2.2.1, hk.2.2.2.2.1⟩⟩⟩⟩))⟩, ⟨yH BK338.out⟩, ⟨yH BK339.out⟩, ⟨yH BK358.out⟩, ⟨yH BK366.out⟩, ⟨yH BK377.out⟩, ⟨zH HB.out⟩⟩
       ·rw [if_neg c95] at H
        have c95b0 : decide (t387 < 0) = false := decide_eq_false c95
        clear c95
        (first | rw [c95b0] | (simp only [i64_w, i32_w]; rw [c95b0]) | skip)
        replace H := Option.bind_eq_some_iff.mp H
        obtain ⟨t390, A960, H⟩ := H
        replace H : (if t390 = true then (laws_FnExactTakeExact.j1 kj15 t357 (t376 != t357) a0_0 l0_1 l0_2 a1_0 a1_1 t350 t351 t354 t369 t370 t373) else (laws_FnExactTakeExact.j1 kj15 t357 true a0_0 l0_1 l0_2 a1_0 a1_1 t350 t351 t354 t369 t370 t373)) = some r := H
        have A96 := aM A960
        clear A960
        by_cases c97 : t390 = true
        ·subst c97
         have H1 : (laws_FnExactTakeExact.j1 kj15 t357 (t376 != t357) a0_0 l0_1 l0_2 a1_0 a1_1 t350 t351 t354 t369 t370 t373) = some r := by rw [if_pos rfl] at H; exact H
         clear H
         have H := H1
         clear H1
         have H' := aM H
         clear H
         have hnb98 := NB377_338.out
         have hnc98 := NB338_377.out
         have hnb99 := NB377_339.out
         have hnc99 := NB339_377.out
         have hnb100 := NB377_358.out
         have hnc100 := NB358_377.out
         have hnb101 := NB377_366.out
         have hnc101 := NB366_377.out
         have hcz102_0 : w94.cell? ⟨gb377, 0, none⟩ = some (.int .i64 t369) := yc BK377.out 0
         have hcz102_1 : w94.cell? ⟨gb377, 1, none⟩ = some (.slice Ao52 t370.length co52) := yc BK377.out 1
         have hcz102_2 : w94.cell? ⟨gb377, 2, none⟩ = some (.slice Ao54 t373.length co54) := yc BK377.out 2
         have hfz102_0 := yZ BK377.out 0
         have hfz102_1 := yZ BK377.out 1
         have hfz102_2 := yZ BK377.out 2
         have hnb103 := NB358_338.out
         have hnc103 := NB338_358.out
         have hnb104 := NB358_339.out
         have hnc104 := NB339_358.out
         have hnb105 := NB358_366.out
         have hnc105 := NB366_358.out
         have hcz106_0 : w94.cell? ⟨gb358, 0, none⟩ = some (.int .i64 t350) := yc BK358.out 0
         have hcz106_1 : w94.cell? ⟨gb358, 1, none⟩ = some (.slice Ao31 t351.length co31) := yc BK358.out 1
         have hcz106_2 : w94.cell? ⟨gb358, 2, none⟩ = some (.slice Ao33 t354.length co33) := yc BK358.out 2
         have hfz106_0 := yZ BK358.out 0
         have hfz106_1 := yZ BK358.out 1
         have hfz106_2 := yZ BK358.out 2
         go_wp2_with (first | (go_at_call 13; (with_reducible refine (laws_eqFree.calls kj15 t369 _ _ t370 _ _ t373 t350 _ _ t351 _ _ t354 true _ ?side1 ?side2 ?side3 ?side4 ?side5 ?side6 ?side7 ?side8 A96.out).mono ?_); (case side1 => repeat (first | exact (Kd.R_reads' p4'.out).2.2 | (with_reducible refine cA ?_ _) | (with_reducible refine cN ?_ _) | (with_reducible refine cD ?_))); (case side2 => exact (Kd.R_reads' p4'.out).2.1); (case side3 => repeat (first | exact (Kd.R_reads' p5'.out).2.2 | (with_reducible refine cA ?_ _) | (with_reducible refine cN ?_ _) | (with_reducible refine cD ?_))); (case side4 => exact (Kd.R_reads' p5'.out).2.1); (case side5 => repeat (first | exact (Kd.R_reads' p0'.out).2.2 | (with_reducible refine cA ?_ _) | (with_reducible refine cN ?_ _) | (with_reducible refine cD ?_))); (case side6 => exact (Kd.R_reads' p0'.out).2.1); (case side7 => repeat (first | exact (Kd.R_reads' p1'.out).2.2 | (with_reducible refine cA ?_ _) | (with_reducible refine cN ?_ _) | (with_reducible refine cD ?_))); (case side8 => exact (Kd.R_reads' p1'.out).2.1); rintro e w107 ⟨rfl, hb⟩; replace p0' := xK p0'.out hb; replace p1' := xK p1'.out hb; replace p2' := xK p2'.out hb; replace p3' := xK p3'.out hb; replace p4' := xK p4'.out hb; replace p5' := xK p5'.out hb; replace HO382 := xK HO382.out hb; replace HO385 := xK HO385.out hb; replace BK338 := yK BK338.out hb; replace BK339 := yK BK339.out hb; replace BK358 := yK BK358.out hb; replace BK366 := yK BK366.out hb; replace BK377 := yK BK377.out hb; replace HB := aM (zT (zH HB.out) hb); (try clear hb)))
         go_meet
         case rel => exact ⟨_, ((t376 != t357)), (by first | rfl | (simp; done) | (simp [*]; done)), H', ⟨by have := HJ15.out; first | omega | exact Nat.le_refl _⟩, ⟨xH (xM p0'.out (fun _ hk => ⟨hk.1, ⟨hk.2.1, ⟨hk.2.2.1, ⟨hk.2.2.2.1, hk.2.2.2.2.1⟩⟩⟩⟩))⟩, ⟨xH (xM p1'.out (fun _ hk => ⟨hk.1, ⟨hk.2.1, ⟨hk.2.2.1, ⟨hk.2.2.2.1, hk.2.2.2.2.1⟩⟩⟩⟩))⟩, ⟨xH (xM p2'.out (fun _ hk => ⟨hk.1.1.1, ⟨hk.1.1.2.1, ⟨hk.1.1.2.2.1, ⟨hk.1.1.2.2.2.1, hk.1.1.2.2.2.2⟩⟩⟩⟩))⟩, ⟨xH (xM p3'.out (fun _ hk => ⟨hk.1.1.1, ⟨hk.1.1.2.1, ⟨hk.1.1.2.2.1, ⟨hk.1.1.2.2.2.1, hk.1.1.2.2.2.2⟩⟩⟩⟩))⟩, ⟨xH (xM p4'.out (fun _ hk => ⟨hk.1, ⟨hk.2.1, ⟨hk.2.2.1, ⟨hk.2.2.2.1, hk.2.2.2.2.1⟩⟩⟩⟩))⟩, ⟨xH (xM p5'.out (fun _ hk => ⟨hk.1, ⟨hk.2.1, ⟨hk.2.2.1, ⟨hk.2.2.2.1, hk.2.2.2.2.1⟩⟩⟩⟩))⟩, ⟨yH BK338.out⟩, ⟨yH BK339.out⟩, ⟨yH BK358.out⟩, ⟨yH BK366.out⟩, ⟨yH BK377.out⟩, ⟨zH HB.out⟩⟩
        ·replace c97 := Bool.eq_false_iff.mpr c97
         subst c97
         have H1 : (laws_FnExactTakeExact.j1 kj15 t357 true a0_0 l0_1 l0_2 a1_0 a1_1 t350 t351 t354 t369 t370 t373) = some r := by rw [if_neg (show ¬ (false = true) by decide)] at H; exact H
         clear H
         have H := H1
         clear H1
         have H' := aM H
         clear H
         have hnb108 := NB377_338.out
         have hnc108 := NB338_377.out
         have hnb109 := NB377_339.out
         have hnc109 := NB339_377.out
         have hnb110 := NB377_358.out
         have hnc110 := NB358_377.out
         have hnb111 := NB377_366.out
         have hnc111 := NB366_377.out
         have hcz112_0 : w94.cell? ⟨gb377, 0, none⟩ = some (.int .i64 t369) := yc BK377.out 0
         have hcz112_1 : w94.cell? ⟨gb377, 1, none⟩ = some (.slice Ao52 t370.length co52) := yc BK377.out 1
         have hcz112_2 : w94.cell? ⟨gb377, 2, none⟩ = some (.slice Ao54 t373.length co54) := yc BK377.out 2
         have hfz112_0 := yZ BK377.out 0
         have hfz112_1 := yZ BK377.out 1
         have hfz112_2 := yZ BK377.out 2
         have hnb113 := NB358_338.out
         have hnc113 := NB338_358.out
         have hnb114 := NB358_339.out
         have hnc114 := NB339_358.out
         have hnb115 := NB358_366.out
         have hnc115 := NB366_358.out
         have hcz116_0 : w94.cell? ⟨gb358, 0, none⟩ = some (.int .i64 t350) := yc BK358.out 0
         have hcz116_1 : w94.cell? ⟨gb358, 1, none⟩ = some (.slice Ao31 t351.length co31) := yc BK358.out 1
         have hcz116_2 : w94.cell? ⟨gb358, 2, none⟩ = some (.slice Ao33 t354.length co33) := yc BK358.out 2
         have hfz116_0 := yZ BK358.out 0
         have hfz116_1 := yZ BK358.out 1
         have hfz116_2 := yZ BK358.out 2
         go_wp2_with (first | (go_at_call 13; (with_reducible refine (laws_eqFree.calls kj15 t369 _ _ t370 _ _ t373 t350 _ _ t351 _ _ t354 false _ ?side1 ?side2 ?side3 ?side4 ?side5 ?side6 ?side7 ?side8 A96.out).mono ?_); (case side1 => repeat (first | exact (Kd.R_reads' p4'.out).2.2 | (with_reducible refine cA ?_ _) | (with_reducible refine cN ?_ _) | (with_reducible refine cD ?_))); (case side2 => exact (Kd.R_reads' p4'.out).2.1); (case side3 => repeat (first | exact (Kd.R_reads' p5'.out).2.2 | (with_reducible refine cA ?_ _) | (with_reducible refine cN ?_ _) | (with_reducible refine cD ?_))); (case side4 => exact (Kd.R_reads' p5'.out).2.1); (case side5 => repeat (first | exact (Kd.R_reads' p0'.out).2.2 | (with_reducible refine cA ?_ _) | (with_reducible refine cN ?_ _) | (with_reducible refine cD ?_))); (case side6 => exact (Kd.R_reads' p0'.out).2.1); (case side7 => repeat (first | exact (Kd.R_reads' p1'.out).2.2 | (with_reducible refine cA ?_ _) | (with_reducible refine cN ?_ _) | (with_reducible refine cD ?_))); (case side8 => exact (Kd.R_reads' p1'.out).2.1); rintro e w117 ⟨rfl, hb⟩; replace p0' := xK p0'.out hb; replace p1' := xK p1'.out hb; replace p2' := xK p2'.out hb; replace p3' := xK p3'.out hb; replace p4' := xK p4'.out hb; replace p5' := xK p5'.out hb; replace HO382 := xK HO382.out hb; replace HO385 := xK HO385.out hb; replace BK338 := yK BK338.out hb; replace BK339 := yK BK339.out hb; replace BK358 := yK BK358.out hb; replace BK366 := yK BK366.out hb; replace BK377 := yK BK377.out hb; replace HB := aM (zT (zH HB.out) hb); (try clear hb)))
         go_meet
         case rel => exact ⟨_, (true), (by first | rfl | (simp; done) | (simp [*]; done)), H', ⟨by have := HJ15.out; first | omega | exact Nat.le_refl _⟩, ⟨xH (xM p0'.out (fun _ hk => ⟨hk.1, ⟨hk.2.1, ⟨hk.2.2.1, ⟨hk.2.2.2.1, hk.2.2.2.2.1⟩⟩⟩⟩))⟩, ⟨xH (xM p1'.out (fun _ hk => ⟨hk.1, ⟨hk.2.1, ⟨hk.2.2.1, ⟨hk.2.2.2.1, hk.2.2.2.2.1⟩⟩⟩⟩))⟩, ⟨xH (xM p2'.out (fun _ hk => ⟨hk.1.1.1, ⟨hk.1.1.2.1, ⟨hk.1.1.2.2.1, ⟨hk.1.1.2.2.2.1, hk.1.1.2.2.2.2⟩⟩⟩⟩))⟩, ⟨xH (xM p3'.out (fun _ hk => ⟨hk.1.1.1, ⟨hk.1.1.2.1, ⟨hk.1.1.2.2.1, ⟨hk.1.1.2.2.2.1, hk.1.1.2.2.2.2⟩⟩⟩⟩))⟩, ⟨xH (xM p4'.out (fun _ hk => ⟨hk.1, ⟨hk.2.1, ⟨hk.2.2.1, ⟨hk.2.2.2.1, hk.2.2.2.2.1⟩⟩⟩⟩))⟩, ⟨xH (xM p5'.out (fun _ hk => ⟨hk.1, ⟨hk.2.1, ⟨hk.2.2.1, ⟨hk.2.2.2.1, hk.2.2.2.2.1⟩⟩⟩⟩))⟩, ⟨yH BK338.out⟩, ⟨yH BK339.out⟩, ⟨yH BK358.out⟩, ⟨yH BK366.out⟩, ⟨yH BK377.out⟩, ⟨zH HB.out⟩⟩
      case rest =>
       clear HC83
       (try clear c1); (try clear p2); (try clear c3); (try clear c5); (try clear c6); (try clear c7); (try clear c8); (try clear c9); (try clear c10); (try clear c11); (try clear c13); (try clear c14); (try clear c18); (try clear c30); (try clear c33); (try clear c57); (try clear c58); (try clear c59); (try clear c60); (try clear c61); (try clear c63); (try clear c64); (try clear c65); (try clear c68); (try clear c69); (try clear c70); (try clear c71); (try clear c73); (try clear c74); (try clear c75); (try clear c78); (try clear c81); (try clear c89); (try clear c90); (try clear c91); (try clear c92); (try clear c95); (try clear c95b0); (try clear c97); (try clear c98); (try clear c99); (try clear c100); (try clear c101); (try clear c103); (try clear c104); (try clear c105); (try clear c108); (try clear c109); (try clear c110); (try clear c111); (try clear c113); (try clear c114); (try clear c115); (try clear hcz102_0); (try clear hcz102_1); (try clear hcz102_2); (try clear hcz106_0); (try clear hcz106_1); (try clear hcz106_2); (try clear hcz112_0); (try clear hcz112_1); (try clear hcz112_2); (try clear hcz116_0); (try clear hcz116_1); (try clear hcz116_2); (try clear hcz62_0); (try clear hcz62_1); (try clear hcz62_2); (try clear hcz66_0); (try clear hcz66_1); (try clear hcz66_2); (try clear hcz72_0); (try clear hcz72_1); (try clear hcz72_2); (try clear hcz76_0); (try clear hcz76_1); (try clear hcz76_2); (try clear hcz93_0); (try clear hcz93_1); (try clear hcz93_2); (try clear hfz102_0); (try clear hfz102_1); (try clear hfz102_2); (try clear hfz106_0); (try clear hfz106_1); (try clear hfz106_2); (try clear hfz112_0); (try clear hfz112_1); (try clear hfz112_2); (try clear hfz116_0); (try clear hfz116_1); (try clear hfz116_2); (try clear hfz62_0); (try clear hfz62_1); (try clear hfz62_2); (try clear hfz66_0); (try clear hfz66_1); (try clear hfz66_2); (try clear hfz72_0); (try clear hfz72_1); (try clear hfz72_2); (try clear hfz76_0); (try clear hfz76_1); (try clear hfz76_2); (try clear hfz93_0); (try clear hfz93_1); (try clear hfz93_2); (try clear p2)
       obtain ⟨kq, x67_82, rfl, HA, HJ82, p0', p1', p2', p3', p4', p5', BK338, BK339, BK358, BK366, BK377, HB⟩ := hcut
       have hl367001_82 := (Kd.R_reads' p2'.out).1
       rw [hl367001_82] at p2'
       (try simp only [hl367001_82])
       (try simp only [hl367001_82] at BK338)
       (try simp only [hl367001_82] at BK339)
       (try simp only [hl367001_82] at BK358)
       (try simp only [hl367001_82] at BK366)
       (try simp only [hl367001_82] at BK377)
       (try simp only [hl367001_82] at p0')
       (try simp only [hl367001_82] at p1')
       (try simp only [hl367001_82] at p3')
       (try simp only [hl367001_82] at p4')
       (try simp only [hl367001_82] at p5')
       have hl367002_82 := (Kd.R_reads' p3'.out).1
       rw [hl367002_82] at p3'
       (try simp only [hl367002_82])
       (try simp only [hl367002_82] at BK338)
       (try simp only [hl367002_82] at BK339)
       (try simp only [hl367002_82] at BK358)
       (try simp only [hl367002_82] at BK366)
       (try simp only [hl367002_82] at BK377)
       (try simp only [hl367002_82] at p0')
       (try simp only [hl367002_82] at p1')
       (try simp only [hl367002_82] at p2')
       (try simp only [hl367002_82] at p4')
       (try simp only [hl367002_82] at p5')
       cases kq with
       | zero => exact absurd HA.out (fun h_ => by change none = some _ at h_; cases h_)
       | succ kj82 =>
        have H := HA.out
        clear HA
        simp only [laws_FnExactTakeExact.j1] at H
        by_cases c118 : x67_82 = true
        ·subst c118
         have H1 : (some false) = some r := by rw [if_pos rfl] at H; exact H
         clear H
         have H := H1
         clear H1
         exact absurd (H.trans (congrArg some HR_.out)) (by decide)
        ·replace c118 := Bool.eq_false_iff.mpr c118
         subst c118
         have H1 : ((laws_markFree.f kj82 t369 t370 t373 1).bind fun bt391 => ((laws_heldFree.f kj82 t369 bt391.2.1 bt391.2.2 1).bind fun t394 => (if t394 < 0 then (some false) else (if t394 = bt391.1 then ((laws_toFree.f kj82 a0_0 l0_1 l0_2).bind fun bt395 => ((laws_toExtent.f a1_0 a1_1).bind fun bt402 => ((impl_TakeExact.f kj82 bt395.1 bt395.2.1 bt395.2.2 bt402.1 bt402.2).bind fun bt404 => ((laws_eqFree.f kj82 bt404.1 bt404.2.1 bt404.2.2.1 t350 t351 t354).bind fun t413 => (if t413 = true then (laws_FnExactTakeExact.j2 kj82 bt391.1 (bt404.2.2.2 != t357) t369 bt391.2.1 bt391.2.2) else (laws_FnExactTakeExact.j2 kj82 bt391.1 true t369 bt391.2.1 bt391.2.2)))))) else (some false))))) = some r := by rw [if_neg (show ¬ (false = true) by decide)] at H; exact H
         clear H
         have H := H1
         clear H1
         replace H := Option.bind_eq_some_iff.mp H
         obtain ⟨⟨t391, t392, t393⟩, A1190, H⟩ := H
         replace H : ((laws_heldFree.f kj82 t369 t392 t393 1).bind fun t394 => (if t394 < 0 then (some false) else (if t394 = t391 then ((laws_toFree.f kj82 a0_0 l0_1 l0_2).bind fun bt395 => ((laws_toExtent.f a1_0 a1_1).bind fun bt402 => ((impl_TakeExact.f kj82 bt395.1 bt395.2.1 bt395.2.2 bt402.1 bt402.2).bind fun bt404 => ((laws_eqFree.f kj82 bt404.1 bt404.2.1 bt404.2.2.1 t350 t351 t354).bind fun t413 => (if t413 = true then (laws_FnExactTakeExact.j2 kj82 t391 (bt404.2.2.2 != t357) t369 t392 t393) else (laws_FnExactTakeExact.j2 kj82 t391 true t369 t392 t393)))))) else (some false)))) = some r := H
         have A119 := aM A1190
         clear A1190
         replace H := Option.bind_eq_some_iff.mp H
         obtain ⟨t394, A1200, H⟩ := H
         replace H : (if t394 < 0 then (some false) else (if t394 = t391 then ((laws_toFree.f kj82 a0_0 l0_1 l0_2).bind fun bt395 => ((laws_toExtent.f a1_0 a1_1).bind fun bt402 => ((impl_TakeExact.f kj82 bt395.1 bt395.2.1 bt395.2.2 bt402.1 bt402.2).bind fun bt404 => ((laws_eqFree.f kj82 bt404.1 bt404.2.1 bt404.2.2.1 t350 t351 t354).bind fun t413 => (if t413 = true then (laws_FnExactTakeExact.j2 kj82 t391 (bt404.2.2.2 != t357) t369 t392 t393) else (laws_FnExactTakeExact.j2 kj82 t391 true t369 t392 t393)))))) else (some false))) = some r := H
         have A120 := aM A1200
         clear A1200
         by_cases c121 : t394 < 0
         ·rw [if_pos c121] at H
          have c121b0 : decide (t394 < 0) = true := decide_eq_true c121
          clear c121
          obtain rfl := Option.some.inj H
          have hnb122 := NB377_338.out
          have hnc122 := NB338_377.out
          have hnb123 := NB377_339.out
          have hnc123 := NB339_377.out
          have hnb124 := NB377_358.out
          have hnc124 := NB358_377.out
          have hnb125 := NB377_366.out
          have hnc125 := NB366_377.out
          have hcz126_0 : wc.cell? ⟨gb377, 0, none⟩ = some (.int .i64 t369) := yc BK377.out 0
          have hcz126_1 : wc.cell? ⟨gb377, 1, none⟩ = some (.slice Ao52 t370.length co52) := yc BK377.out 1
          have hcz126_2 : wc.cell? ⟨gb377, 2, none⟩ = some (.slice Ao54 t373.length co54) := yc BK377.out 2
          have hfz126_0 := yZ BK377.out 0
          have hfz126_1 := yZ BK377.out 1
          have hfz126_2 := yZ BK377.out 2
          go_wp2_with (first | ((with_reducible refine gate_callee (f := 14) rfl ?_); refine goesL_ (some 70) rfl rfl Try.func14 (by kernel_rfl) rfl #[.agg #[.int .i64 t369, .slice Ao52 t370.length co52, .slice Ao54 t373.length co54], .int .i64 1] rfl (by (try simp only [List.map_toArray, List.map_cons, List.map_nil]); first | done | rfl | (simp only [List.length_drop, List.length_take]; rfl)) ?_; (with_reducible refine (laws_markFree.calls kj82 t369 (fun k_ => some k_ = oB Ao52 t370.length co52) (.slice Ao52 t370.length co52) t370 (fun k_ => some k_ = oB Ao54 t373.length co54) (.slice Ao54 t373.length co54) t373 1 t391 t392 t393 w _ ?side1 ?side2 ?side3 ?side4 ?side5 A119.out).mono ?_); (case side1 => repeat (first | (with_reducible first | exact HB.out | apply zA | apply zN | apply zD | refine zS ?_ GE338.out | refine zS ?_ GE339.out | refine zS ?_ GE358.out | refine zS ?_ GE366.out | refine zS ?_ GE377.out) | exact HB.out)); (case side2 => exact Kd.R_tight rfl p4'.out); (case side3 => exact fun k_ e_ => (p4'.out.1 k_ e_.symm).2.2.2.2); (case side4 => exact Kd.R_tight rfl p5'.out); (case side5 => exact fun k_ e_ => (p5'.out.1 k_ e_.symm).2.2.2.2); rintro e w127 ⟨rfl, hy0, hy1, hb, hkp⟩; refine ⟨_, rfl, ?_⟩; replace p0' := kB p0'.out hkp (fun k_ hk_ hs_ => Or.elim hs_ (fun e_ => (hk_.2.2.2.1) e_) (fun e_ => (hk_.2.2.2.2) e_)); replace p1' := kB p1'.out hkp (fun k_ hk_ hs_ => Or.elim hs_ (fun e_ => (hk_.2.2.2.1) e_) (fun e_ => (hk_.2.2.2.2) e_)); replace p2' := kB p2'.out hkp (fun k_ hk_ hs_ => Or.elim hs_ (fun e_ => (hk_.2.2.2.1) e_) (fun e_ => (hk_.2.2.2.2) e_)); replace p3' := kB p3'.out hkp (fun k_ hk_ hs_ => Or.elim hs_ (fun e_ => (hk_.2.2.2.1) e_) (fun e_ => (hk_.2.2.2.2) e_)); replace BK338 := aM (blk_kept BK338.out hkp (fun hs_ => Or.elim hs_ (fun e_ => (fun e_ => (Kd.R_ne p4'.out BK338.out (by decide)) e_) e_) (fun e_ => (fun e_ => (Kd.R_ne p5'.out BK338.out (by decide)) e_) e_))); replace BK339 := aM (blk_kept BK339.out hkp (fun hs_ => Or.elim hs_ (fun e_ => (fun e_ => (Kd.R_ne p4'.out BK339.out (by decide)) e_) e_) (fun e_ => (fun e_ => (Kd.R_ne p5'.out BK339.out (by decide)) e_) e_))); replace BK358 := aM (blk_kept BK358.out hkp (fun hs_ => Or.elim hs_ (fun e_ => (fun e_ => (Kd.R_ne p4'.out BK358.out (by decide)) e_) e_) (fun e_ => (fun e_ => (Kd.R_ne p5'.out BK358.out (by decide)) e_) e_))); replace BK366 := aM (blk_kept BK366.out hkp (fun hs_ => Or.elim hs_ (fun e_ => (fun e_ => (Kd.R_ne p4'.out BK366.out (by decide)) e_) e_) (fun e_ => (fun e_ => (Kd.R_ne p5'.out BK366.out (by decide)) e_) e_))); replace BK377 := aM (blk_kept BK377.out hkp (fun hs_ => Or.elim hs_ (fun e_ => (fun e_ => (Kd.R_ne p4'.out BK377.out (by decide)) e_) e_) (fun e_ => (fun e_ => (Kd.R_ne p5'.out BK377.out (by decide)) e_) e_))); replace p4' := aM (Kd.R_reok rfl hy0 (fun k_ e_ => p4'.out.1 k_ e_)); replace p5' := aM (Kd.R_reok rfl hy1 (fun k_ e_ => p5'.out.1 k_ e_)); replace HB := aM (hb); (try clear hb); (try clear hkp); (try clear hy0); (try clear hy1); have hcz128_0 : w127.cell? ⟨gb377, 0, none⟩ = some (.int .i64 t369) := yc BK377.out 0; have hcz128_1 : w127.cell? ⟨gb377, 1, none⟩ = some (.slice Ao52 t370.length co52) := yc BK377.out 1; have hcz128_2 : w127.cell? ⟨gb377, 2, none⟩ = some (.slice Ao54 t373.length co54) := yc BK377.out 2; have hfz128_0 := yZ BK377.out 0; have hfz128_1 := yZ BK377.out 1; have hfz128_2 := yZ BK377.out 2) | ((with_reducible refine gate_callee (f := 15) rfl ?_); refine goesL_ (some 73) rfl rfl Try.func15 (by kernel_rfl) rfl #[.agg #[.int .i64 t369, .slice Ao52 t392.length co52, .slice Ao54 t393.length co54], .int .i64 1] rfl (by (try simp only [List.map_toArray, List.map_cons, List.map_nil]); first | done | (rw [show t392.length = t370.length from (Kd.R_reads' p4'.out).1.symm, show t393.length = t373.length from (Kd.R_reads' p5'.out).1.symm] <;> rfl) | rfl | (simp only [List.length_drop, List.length_take]; rfl)) ?_; (with_reducible refine (laws_heldFree.calls kj82 t369 _ _ t392 _ _ t393 1 t394 _ ?side1 ?side2 ?side3 ?side4 A120.out).mono ?_); (case side1 => repeat (first | exact (Kd.R_reads' p4'.out).2.2 | (with_reducible refine cA ?_ _) | (with_reducible refine cN ?_ _) | (with_reducible refine cD ?_))); (case side2 => rw [show t392.length = t370.length from (Kd.R_reads' p4'.out).1.symm]; exact (Kd.R_reads' p4'.out).2.1); (case side3 => repeat (first | exact (Kd.R_reads' p5'.out).2.2 | (with_reducible refine cA ?_ _) | (with_reducible refine cN ?_ _) | (with_reducible refine cD ?_))); (case side4 => rw [show t393.length = t373.length from (Kd.R_reads' p5'.out).1.symm]; exact (Kd.R_reads' p5'.out).2.1); rintro e w129 ⟨rfl, hb⟩; refine ⟨_, rfl, ?_⟩; replace p0' := xK p0'.out hb; replace p1' := xK p1'.out hb; replace p2' := xK p2'.out hb; replace p3' := xK p3'.out hb; replace p4' := xK p4'.out hb; replace p5' := xK p5'.out hb; replace BK338 := yK BK338.out hb; replace BK339 := yK BK339.out hb; replace BK358 := yK BK358.out hb; replace BK366 := yK BK366.out hb; replace BK377 := yK BK377.out hb; replace HB := aM (zT (zH HB.out) hb); (try clear hb)))
          go_ret
          exact ⟨by first | rfl | (simp [errW_none, errW_some] <;> rfl) | (simp [*, errW_none, errW_some] <;> rfl), zH HB.out⟩
         ·rw [if_neg c121] at H
          have c121b0 : decide (t394 < 0) = false := decide_eq_false c121
          clear c121
          by_cases c130 : t394 = t391
          ·rw [if_pos c130] at H
           have c130b0 : (t394 == t391) = true := beq_iff_eq.mpr c130
           have c130b1 : (t394 != t391) = false := bne_eq_false_iff_eq.mpr c130
           clear c130
           replace H := Option.bind_eq_some_iff.mp H
           obtain ⟨⟨t395, t396, t399⟩, A1310, H⟩ := H
           replace H : ((laws_toExtent.f a1_0 a1_1).bind fun bt402 => ((impl_TakeExact.f kj82 t395 t396 t399 bt402.1 bt402.2).bind fun bt404 => ((laws_eqFree.f kj82 bt404.1 bt404.2.1 bt404.2.2.1 t350 t351 t354).bind fun t413 => (if t413 = true then (laws_FnExactTakeExact.j2 kj82 t391 (bt404.2.2.2 != t357) t369 t392 t393) else (laws_FnExactTakeExact.j2 kj82 t391 true t369 t392 t393))))) = some r := H
           have A131 := aM A1310
           clear A1310
           replace H := Option.bind_eq_some_iff.mp H
           obtain ⟨⟨t402, t403⟩, A1320, H⟩ := H
           replace H : ((impl_TakeExact.f kj82 t395 t396 t399 t402 t403).bind fun bt404 => ((laws_eqFree.f kj82 bt404.1 bt404.2.1 bt404.2.2.1 t350 t351 t354).bind fun t413 => (if t413 = true then (laws_FnExactTakeExact.j2 kj82 t391 (bt404.2.2.2 != t357) t369 t392 t393) else (laws_FnExactTakeExact.j2 kj82 t391 true t369 t392 t393)))) = some r := H
           have A132 := aM A1320
           clear A1320
           replace H := Option.bind_eq_some_iff.mp H
           obtain ⟨⟨t404, t405, t408, t411⟩, A1330, H⟩ := H
           replace H : ((laws_eqFree.f kj82 t404 t405 t408 t350 t351 t354).bind fun t413 => (if t413 = true then (laws_FnExactTakeExact.j2 kj82 t391 (t411 != t357) t369 t392 t393) else (laws_FnExactTakeExact.j2 kj82 t391 true t369 t392 t393))) = some r := H
           have A133 := aM A1330
           clear A1330
           have HC134 := aM H
           clear H
           have hnb135 := NB377_338.out
           have hnc135 := NB338_377.out
           have hnb136 := NB377_339.out
           have hnc136 := NB339_377.out
           have hnb137 := NB377_358.out
           have hnc137 := NB358_377.out
           have hnb138 := NB377_366.out
           have hnc138 := NB366_377.out
           have hcz139_0 : wc.cell? ⟨gb377, 0, none⟩ = some (.int .i64 t369) := yc BK377.out 0
           have hcz139_1 : wc.cell? ⟨gb377, 1, none⟩ = some (.slice Ao52 t370.length co52) := yc BK377.out 1
           have hcz139_2 : wc.cell? ⟨gb377, 2, none⟩ = some (.slice Ao54 t373.length co54) := yc BK377.out 2
           have hfz139_0 := yZ BK377.out 0
           have hfz139_1 := yZ BK377.out 1
           have hfz139_2 := yZ BK377.out 2
           try go_wp2_with (first | ((with_reducible refine gate_callee (f := 14) rfl ?_); refine goesL_ (some 70) rfl rfl Try.func14 (by kernel_rfl) rfl #[.agg #[.int .i64 t369, .slice Ao52 t370.length co52, .slice Ao54 t373.length co54], .int .i64 1] rfl (by (try simp only [List.map_toArray, List.map_cons, List.map_nil]); first | done | rfl | (simp only [List.length_drop, List.length_take]; rfl)) ?_; (with_reducible refine (laws_markFree.calls kj82 t369 (fun k_ => some k_ = oB Ao52 t370.length co52) (.slice Ao52 t370.length co52) t370 (fun k_ => some k_ = oB Ao54 t373.length co54) (.slice Ao54 t373.length co54) t373 1 t391 t392 t393 w _ ?side1 ?side2 ?side3 ?side4 ?side5 A119.out).mono ?_); (case side1 => repeat (first | (with_reducible first | exact HB.out | apply zA | apply zN | apply zD | refine zS ?_ GE338.out | refine zS ?_ GE339.out | refine zS ?_ GE358.out | refine zS ?_ GE366.out | refine zS ?_ GE377.out) | exact HB.out)); (case side2 => exact Kd.R_tight rfl p4'.out); (case side3 => exact fun k_ e_ => (p4'.out.1 k_ e_.symm).2.2.2.2); (case side4 => exact Kd.R_tight rfl p5'.out); (case side5 => exact fun k_ e_ => (p5'.out.1 k_ e_.symm).2.2.2.2); rintro e w140 ⟨rfl, hy0, hy1, hb, hkp⟩; refine ⟨_, rfl, ?_⟩; replace p0' := kB p0'.out hkp (fun k_ hk_ hs_ => Or.elim hs_ (fun e_ => (hk_.2.2.2.1) e_) (fun e_ => (hk_.2.2.2.2) e_)); replace p1' := kB p1'.out hkp (fun k_ hk_ hs_ => Or.elim hs_ (fun e_ => (hk_.2.2.2.1) e_) (fun e_ => (hk_.2.2.2.2) e_)); replace p2' := kB p2'.out hkp (fun k_ hk_ hs_ => Or.elim hs_ (fun e_ => (hk_.2.2.2.1) e_) (fun e_ => (hk_.2.2.2.2) e_)); replace p3' := kB p3'.out hkp (fun k_ hk_ hs_ => Or.elim hs_ (fun e_ => (hk_.2.2.2.1) e_) (fun e_ => (hk_.2.2.2.2) e_)); replace BK338 := aM (blk_kept BK338.out hkp (fun hs_ => Or.elim hs_ (fun e_ => (fun e_ => (Kd.R_ne p4'.out BK338.out (by decide)) e_) e_) (fun e_ => (fun e_ => (Kd.R_ne p5'.out BK338.out (by decide)) e_) e_))); replace BK339 := aM (blk_kept BK339.out hkp (fun hs_ => Or.elim hs_ (fun e_ => (fun e_ => (Kd.R_ne p4'.out BK339.out (by decide)) e_) e_) (fun e_ => (fun e_ => (Kd.R_ne p5'.out BK339.out (by decide)) e_) e_))); replace BK358 := aM (blk_kept BK358.out hkp (fun hs_ => Or.elim hs_ (fun e_ => (fun e_ => (Kd.R_ne p4'.out BK358.out (by decide)) e_) e_) (fun e_ => (fun e_ => (Kd.R_ne p5'.out BK358.out (by decide)) e_) e_))); replace BK366 := aM (blk_kept BK366.out hkp (fun hs_ => Or.elim hs_ (fun e_ => (fun e_ => (Kd.R_ne p4'.out BK366.out (by decide)) e_) e_) (fun e_ => (fun e_ => (Kd.R_ne p5'.out BK366.out (by decide)) e_) e_))); replace BK377 := aM (blk_kept BK377.out hkp (fun hs_ => Or.elim hs_ (fun e_ => (fun e_ => (Kd.R_ne p4'.out BK377.out (by decide)) e_) e_) (fun e_ => (fun e_ => (Kd.R_ne p5'.out BK377.out (by decide)) e_) e_))); replace p4' := aM (Kd.R_reok rfl hy0 (fun k_ e_ => p4'.out.1 k_ e_)); replace p5' := aM (Kd.R_reok rfl hy1 (fun k_ e_ => p5'.out.1 k_ e_)); replace HB := aM (hb); (try clear hb); (try clear hkp); (try clear hy0); (try clear hy1); have hcz141_0 : w140.cell? ⟨gb377, 0, none⟩ = some (.int .i64 t369) := yc BK377.out 0; have hcz141_1 : w140.cell? ⟨gb377, 1, none⟩ = some (.slice Ao52 t370.length co52) := yc BK377.out 1; have hcz141_2 : w140.cell? ⟨gb377, 2, none⟩ = some (.slice Ao54 t373.length co54) := yc BK377.out 2; have hfz141_0 := yZ BK377.out 0; have hfz141_1 := yZ BK377.out 1; have hfz141_2 := yZ BK377.out 2) | ((with_reducible refine gate_callee (f := 15) rfl ?_); refine goesL_ (some 73) rfl rfl Try.func15 (by kernel_rfl) rfl #[.agg #[.int .i64 t369, .slice Ao52 t392.length co52, .slice Ao54 t393.length co54], .int .i64 1] rfl (by (try simp only [List.map_toArray, List.map_cons, List.map_nil]); first | done | (rw [show t392.length = t370.length from (Kd.R_reads' p4'.out).1.symm, show t393.length = t373.length from (Kd.R_reads' p5'.out).1.symm] <;> rfl) | rfl | (simp only [List.length_drop, List.length_take]; rfl)) ?_; (with_reducible refine (laws_heldFree.calls kj82 t369 _ _ t392 _ _ t393 1 t394 _ ?side1 ?side2 ?side3 ?side4 A120.out).mono ?_); (case side1 => repeat (first | exact (Kd.R_reads' p4'.out).2.2 | (with_reducible refine cA ?_ _) | (with_reducible refine cN ?_ _) | (with_reducible refine cD ?_))); (case side2 => rw [show t392.length = t370.length from (Kd.R_reads' p4'.out).1.symm]; exact (Kd.R_reads' p4'.out).2.1); (case side3 => repeat (first | exact (Kd.R_reads' p5'.out).2.2 | (with_reducible refine cA ?_ _) | (with_reducible refine cN ?_ _) | (with_reducible refine cD ?_))); (case side4 => rw [show t393.length = t373.length from (Kd.R_reads' p5'.out).1.symm]; exact (Kd.R_reads' p5'.out).2.1); rintro e w142 ⟨rfl, hb⟩; refine ⟨_, rfl, ?_⟩; replace p0' := xK p0'.out hb; replace p1' := xK p1'.out hb; replace p2' := xK p2'.out hb; replace p3' := xK p3'.out hb; replace p4' := xK p4'.out hb; replace p5' := xK p5'.out hb; replace BK338 := yK BK338.out hb; replace BK339 := yK BK339.out hb; replace BK358 := yK BK358.out hb; replace BK366 := yK BK366.out hb; replace BK377 := yK BK377.out hb; replace HB := aM (zT (zH HB.out) hb); (try clear hb)))
           replace p0' := aM (xD p0'.out)
           replace p1' := aM (xD p1'.out)
           replace p2' := aM (xD p2'.out)
           replace p3' := aM (xD p3'.out)
           replace p4' := aM (xD p4'.out)
           replace p5' := aM (xD p5'.out)
           replace BK338 := aM (yD BK338.out)
           replace BK339 := aM (yD BK339.out)
           replace BK358 := aM (yD BK358.out)
           replace BK366 := aM (yD BK366.out)
           replace BK377 := aM (yD BK377.out)
           replace HB := aM (zD HB.out)
           refine start_ (n := 11) (S := fun w' => w'.cell? ⟨gb338, 0, none⟩ = some (.int .i64 a0_0) ∧ w'.cell? ⟨gb338, 1, none⟩ = some (.slice A0_1 l0_1.length c0_1) ∧ w'.cell? ⟨gb338, 2, none⟩ = some (.slice A0_2 l0_2.length c0_2) ∧ w'.cell? ⟨gb339, 0, none⟩ = some (.int .i64 a1_0) ∧ w'.cell? ⟨gb339, 1, none⟩ = some (.int .i64 a1_1)) (ds := []) #[fF,fF,fF,fF,fF,fF,fF,fF,fF,fF,fF] (by kernel_rfl) rfl rfl ⟨yc BK338.out 0, yc BK338.out 1, yc BK338.out 2, yc BK339.out 0, yc BK339.out 1⟩ (fun hHeld => ?_); refine with_tabW laws_FnExactTakeExact.tab24 laws_FnExactTakeExact.bits24 (fun HT_ HW_ => ?_)
           generalize w142.drew = w143 at p0' p1' p2' p3' p4' p5' BK338 BK339 BK358 BK366 BK377 HB hHeld ⊢
           refine take_ (i := 0) (N := some 80) (v := ?_) (a' := ?_) #[tT,fF,fF,fF,fF,fF,fF,fF,fF,fF,fF] rfl rfl (take_ofW HT_.out HW_.out (by kernel_rfl)) (fun _ _ _ h => h) (Or.inl ⟨by rfl, ?_⟩) hHeld ?_ ?_
           rotate_left
           ·rintro w' ⟨s0, s1, s2, s3, s4⟩
            go_simp
            with_reducible rfl
           rotate_left
           ·simp only [Act.put, qA, qB, qC, i64_w, i32_w]
            rfl
           refine take_ (i := 2) (N := some 82) (v := ?_) (a' := ?_) #[tT,fF,tT,fF,fF,fF,fF,fF,fF,fF,fF] rfl rfl (take_ofW HT_.out HW_.out (by kernel_rfl)) (fun _ _ _ h => h) (Or.inl ⟨by rfl, ?_⟩) hHeld ?_ ?_
           rotate_left
           ·rintro w' ⟨s0, s1, s2, s3, s4⟩
            go_simp
            with_reducible rfl
           rotate_left
           ·simp only [Act.put, qA, qB, qC, i64_w, i32_w]
            rfl
           refine join_ (σ := Value × Value × Value × Value × Nat) 2 #[tT,tT,tT,tT,tT,tT,tT,tT,tT,fF,fF] (fun s_ => [(81, .agg #[.int .i64 t395, s_.1, s_.2.1]), (83, .agg #[.int .i64 t402, .int .i64 t403]), (84, .tuple #[.agg #[.int .i64 t404, s_.2.2.1, s_.2.2.2.1], .bool t411]), (14, .pointer (some ⟨s_.2.2.2.2, 0, none⟩)), (79, .tuple #[.agg #[.int .i64 t404, s_.2.2.1, s_.2.2.2.1], .bool t411]), (85, .agg #[.int .i64 t404, s_.2.2.1, s_.2.2.2.1]), (86, .bool t411)]) (fun s_ w' => (w'.cell? ⟨gb338, 0, none⟩ = some (.int .i64 a0_0) ∧ w'.cell? ⟨gb338, 1, none⟩ = some (.slice A0_1 l0_1.length c0_1) ∧ w'.cell? ⟨gb338, 2, none⟩ = some (.slice A0_2 l0_2.length c0_2) ∧ w'.cell? ⟨gb339, 0, none⟩ = some (.int .i64 a1_0) ∧ w'.cell? ⟨gb339, 1, none⟩ = some (.int .i64 a1_1)) ∧ (Kd.R k49 49 w' w.heap.size (fun k_ => some k_ ≠ (s_.2.1 : Value).ownBlock ∧ some k_ ≠ (s_.2.2.1 : Value).ownBlock ∧ some k_ ≠ (s_.2.2.2.1 : Value).ownBlock ∧ some k_ ≠ oB Ao31 t351.length co31 ∧ some k_ ≠ oB Ao33 t354.length co33 ∧ some k_ ≠ oB Ao43 t388.length co43 ∧ some k_ ≠ oB Ao44 t389.length co44 ∧ some k_ ≠ oB Ao52 t370.length co52 ∧ some k_ ≠ oB Ao54 t373.length co54) s_.1 t396) ∧ (Kd.R k49 49 w' w.heap.size (fun k_ => some k_ ≠ (s_.1 : Value).ownBlock ∧ some k_ ≠ (s_.2.2.1 : Value).ownBlock ∧ some k_ ≠ (s_.2.2.2.1 : Value).ownBlock ∧ some k_ ≠ oB Ao31 t351.length co31 ∧ some k_ ≠ oB Ao33 t354.length co33 ∧ some k_ ≠ oB Ao43 t388.length co43 ∧ some k_ ≠ oB Ao44 t389.length co44 ∧ some k_ ≠ oB Ao52 t370.length co52 ∧ some k_ ≠ oB Ao54 t373.length co54) s_.2.1 t399) ∧ (Kd.R k49 49 w' w.heap.size (fun k_ => some k_ ≠ (s_.1 : Value).ownBlock ∧ some k_ ≠ (s_.2.1 : Value).ownBlock ∧ some k_ ≠ (s_.2.2.2.1 : Value).ownBlock ∧ some k_ ≠ oB Ao31 t351.length co31 ∧ some k_ ≠ oB Ao33 t354.length co33 ∧ some k_ ≠ oB Ao43 t388.length co43 ∧ some k_ ≠ oB Ao44 t389.length co44 ∧ some k_ ≠ oB Ao52 t370.length co52 ∧ some k_ ≠ oB Ao54 t373.length co54) s_.2.2.1 t405) ∧ (Kd.R k49 49 w' w.heap.size (fun k_ => some k_ ≠ (s_.1 : Value).ownBlock ∧ some k_ ≠ (s_.2.1 : Value).ownBlock ∧ some k_ ≠ (s_.2.2.1 : Value).ownBlock ∧ some k_ ≠ oB Ao31 t351.length co31 ∧ some k_ ≠ oB Ao33 t354.length co33 ∧ some k_ ≠ oB Ao43 t388.length co43 ∧ some k_ ≠ oB Ao44 t389.length co44 ∧ some k_ ≠ oB Ao52 t370.length co52 ∧ some k_ ≠ oB Ao54 t373.length co54) s_.2.2.2.1 t408) ∧ (Kd.R k49 49 w' w.heap.size (fun k_ => some k_ ≠ (s_.1 : Value).ownBlock ∧ some k_ ≠ (s_.2.1 : Value).ownBlock ∧ some k_ ≠ (s_.2.2.1 : Value).ownBlock ∧ some k_ ≠ (s_.2.2.2.1 : Value).ownBlock ∧ some k_ ≠ oB Ao33 t354.length co33 ∧ some k_ ≠ oB Ao43 t388.length co43 ∧ some k_ ≠ oB Ao44 t389.length co44 ∧ some k_ ≠ oB Ao52 t370.length co52 ∧ some k_ ≠ oB Ao54 t373.length co54) (.slice Ao31 t351.length co31) t351) ∧ (Kd.R k49 49 w' w.heap.size (fun k_ => some k_ ≠ (s_.1 : Value).ownBlock ∧ some k_ ≠ (s_.2.1 : Value).ownBlock ∧ some k_ ≠ (s_.2.2.1 : Value).ownBlock ∧ some k_ ≠ (s_.2.2.2.1 : Value).ownBlock ∧ some k_ ≠ oB Ao31 t351.length co31 ∧ some k_ ≠ oB Ao43 t388.length co43 ∧ some k_ ≠ oB Ao44 t389.length co44 ∧ some k_ ≠ oB Ao52 t370.length co52 ∧ some k_ ≠ oB Ao54 t373.length co54) (.slice Ao33 t354.length co33) t354) ∧ (Kd.R k49 49 w' w.heap.size (fun k_ => some k_ ≠ (s_.1 : Value).ownBlock ∧ some k_ ≠ (s_.2.1 : Value).ownBlock ∧ some k_ ≠ (s_.2.2.1 : Value).ownBlock ∧ some k_ ≠ (s_.2.2.2.1 : Value).ownBlock ∧ some k_ ≠ oB Ao31 t351.length co31 ∧ some k_ ≠ oB Ao33 t354.length co33 ∧ some k_ ≠ oB Ao44 t389.length co44 ∧ some k_ ≠ oB Ao52 t370.length co52 ∧ some k_ ≠ oB Ao54 t373.length co54) (.slice Ao43 t388.length co43) t388) ∧ (Kd.R k49 49 w' w.heap.size (fun k_ => some k_ ≠ (s_.1 : Value).ownBlock ∧ some k_ ≠ (s_.2.1 : Value).ownBlock ∧ some k_ ≠ (s_.2.2.1 : Value).ownBlock ∧ some k_ ≠ (s_.2.2.2.1 : Value).ownBlock ∧ some k_ ≠ oB Ao31 t351.length co31 ∧ some k_ ≠ oB Ao33 t354.length co33 ∧ some k_ ≠ oB Ao43 t388.length co43 ∧ some k_ ≠ oB Ao52 t370.length co52 ∧ some k_ ≠ oB Ao54 t373.length co54) (.slice Ao44 t389.length co44) t389) ∧ (Kd.R k49 49 w' w.heap.size (fun k_ => some k_ ≠ (s_.1 : Value).ownBlock ∧ some k_ ≠ (s_.2.1 : Value).ownBlock ∧ some k_ ≠ (s_.2.2.1 : Value).ownBlock ∧ some k_ ≠ (s_.2.2.2.1 : Value).ownBlock ∧ some k_ ≠ oB Ao31 t351.length co31 ∧ some k_ ≠ oB Ao33 t354.length co33 ∧ some k_ ≠ oB Ao43 t388.length co43 ∧ some k_ ≠ oB Ao44 t389.length co44 ∧ some k_ ≠ oB Ao54 t373.length co54) (.slice Ao52 t370.length co52) t392) ∧ (Kd.R k49 49 w' w.heap.size (fun k_ => some k_ ≠ (s_.1 : Value).ownBlock ∧ some k_ ≠ (s_.2.1 : Value).ownBlock ∧ some k_ ≠ (s_.2.2.1 : Value).ownBlock ∧ some k_ ≠ (s_.2.2.2.1 : Value).ownBlock ∧ some k_ ≠ oB Ao31 t351.length co31 ∧ some k_ ≠ oB Ao33 t354.length co33 ∧ some k_ ≠ oB Ao43 t388.length co43 ∧ some k_ ≠ oB Ao44 t389.length co44 ∧ some k_ ≠ oB Ao52 t370.length co52) (.slice Ao54 t373.length co54) t393) ∧ (w'.heap[gb338]? = some (.cells #[.int .i64 a0_0, .slice A0_1 l0_1.length c0_1, .slice A0_2 l0_2.length c0_2] 32 (0, 0))) ∧ (w'.heap[gb339]? = some (.cells #[.int .i64 a1_0, .int .i64 a1_1] 47 (0, 0))) ∧ (w'.heap[gb358]? = some (.cells #[.int .i64 t350, .slice Ao31 t351.length co31, .slice Ao33 t354.length co33] 24 (0, 0))) ∧ (w'.heap[gb366]? = some (.cells #[.int .i64 t359, .slice Ao43 t388.length co43, .slice Ao44 t389.length co44] 24 (0, 0))) ∧ (w'.heap[gb377]? = some (.cells #[.int .i64 t369, .slice Ao52 t370.length co52, .slice Ao54 t373.length co54] 24 (0, 0))) ∧ (w'.heap[s_.2.2.2.2]? = some (.cells #[.int .i64 0, .slice none 0 0, .slice none 0 0] 24 (0, 0))) ∧ (w.heap.size ≤ s_.2.2.2.2) ∧ (w.heap.size ≤ s_.2.2.2.2) ∧ (gb338 ≠ s_.2.2.2.2) ∧ (s_.2.2.2.2 ≠ gb338) ∧ (gb339 ≠ s_.2.2.2.2) ∧ (s_.2.2.2.2 ≠ gb339) ∧ (gb358 ≠ s_.2.2.2.2) ∧ (s_.2.2.2.2 ≠ gb358) ∧ (gb366 ≠ s_.2.2.2.2) ∧ (s_.2.2.2.2 ≠ gb366) ∧ (gb377 ≠ s_.2.2.2.2) ∧ (s_.2.2.2.2 ≠ gb377) ∧ (Below w.heap.size w w')) ?_ ?_
           rotate_left
           ·intro hCont
            refine two_ (i := 1) (j := 8) (Ni := some 81) (Nj := some 14) #[tT,tT,tT,fF,fF,fF,fF,fF,fF,fF,fF] #[tT,fF,tT,fF,fF,fF,fF,fF,tT,fF,fF] rfl rfl rfl rfl (two_of HT_.out (by kernel_rfl)) (by decide) (by decide) (fun K hK => ?_) (fun K hK => ?_)
            ·skip
             refine gS Try.func18 (by kernel_rfl) rfl #[.agg #[.int .i64 a0_0, .slice A0_1 l0_1.length c0_1, .slice A0_2 l0_2.length c0_2]] (by rfl) rfl rfl ?_
             with_reducible refine (laws_toFree.calls kj82 a0_0 _ _ l0_1 _ _ l0_2 t395 t396 t399 _ ?side1 ?side2 ?side3 ?side4 A131.out).mono ?_
             (case side1 => exact cK HR0_1.out HB.out)
             (case side2 => exact HC0_1.out)
             (case side3 => exact cK HR0_2.out HB.out)
             (case side4 => exact HC0_2.out)
             rintro e w144 ⟨v397, v400, rfl, ho0, ho1, hb⟩
             refine ⟨_, rfl, ?_⟩
             have HO398 := aM (xL (Kd.R_new' (Kd.R_new' (Kd.R_new' (Kd.R_new' (Kd.R_new' (Kd.R_new' ho0 (Kd.R_lt (xH p0'.out))) (Kd.R_lt (xH p1'.out))) (Kd.R_lt (xH p2'.out))) (Kd.R_lt (xH p3'.out))) (Kd.R_lt (xH p4'.out))) (Kd.R_lt (xH p5'.out))) (zZ (zH HB.out)))
             have HO401 := aM (xL (Kd.R_new' (Kd.R_new' (Kd.R_new' (Kd.R_new' (Kd.R_new' (Kd.R_new' ho1 (Kd.R_lt (xH p0'.out))) (Kd.R_lt (xH p1'.out))) (Kd.R_lt (xH p2'.out))) (Kd.R_lt (xH p3'.out))) (Kd.R_lt (xH p4'.out))) (Kd.R_lt (xH p5'.out))) (zZ (zH HB.out)))
             replace p0' := aM (xM (Kd.R_told (Kd.R_told (Kd.R_old (xH p0'.out) hb) (Kd.R_base ho0)) (Kd.R_base ho1)) (fun _ h_ => h_.1))
             replace p1' := aM (xM (Kd.R_told (Kd.R_told (Kd.R_old (xH p1'.out) hb) (Kd.R_base ho0)) (Kd.R_base ho1)) (fun _ h_ => h_.1))
             replace p2' := aM (xM (Kd.R_told (Kd.R_told (Kd.R_old (xH p2'.out) hb) (Kd.R_base ho0)) (Kd.R_base ho1)) (fun _ h_ => h_.1))
             replace p3' := aM (xM (Kd.R_told (Kd.R_told (Kd.R_old (xH p3'.out) hb) (Kd.R_base ho0)) (Kd.R_base ho1)) (fun _ h_ => h_.1))
             replace p4' := aM (xM (Kd.R_told (Kd.R_told (Kd.R_old (xH p4'.out) hb) (Kd.R_base ho0)) (Kd.R_base ho1)) (fun _ h_ => h_.1))
             replace p5' := aM (xM (Kd.R_told (Kd.R_told (Kd.R_old (xH p5'.out) hb) (Kd.R_base ho0)) (Kd.R_base ho1)) (fun _ h_ => h_.1))
             replace BK338 := yK BK338.out hb
             replace BK339 := yK BK339.out hb
             replace BK358 := yK BK358.out hb
             replace BK366 := yK BK366.out hb
             replace BK377 := yK BK377.out hb
             replace HB := aM (zT (zH HB.out) hb)
             (try clear hb); (try clear ho0); (try clear ho1)
             refine hK.out _ _ ⟨yc BK338.out 0, yc BK338.out 1, yc BK338.out 2, yc BK339.out 0, yc BK339.out 1⟩ (fun hHeld => ?_)
             clear hK K
             refine norm_ (a' := ?_) ?_ ?_
             rotate_left
             ·show Act.put _ (some 81) _ = _
              simp only [Act.put, qA, qB, qC, i64_w, i32_w]
              rfl
             refine two_ (i := 3) (j := 8) (Ni := some 83) (Nj := some 14) #[tT,tT,tT,tT,fF,fF,fF,fF,fF,fF,fF] #[tT,tT,tT,fF,fF,fF,fF,fF,tT,fF,fF] rfl rfl rfl rfl (two_of HT_.out (by kernel_rfl)) (by decide) (by decide) (fun K hK => ?_) (fun K hK => ?_)
             ·skip
              refine gS Try.func30 (by kernel_rfl) rfl #[.agg #[.int .i64 a1_0, .int .i64 a1_1]] (by rfl) rfl rfl ?_
              with_reducible refine (laws_toExtent.calls a1_0 a1_1 t402 t403 _ A132.out).mono ?_
              rintro e w145 ⟨rfl, hb⟩
              refine ⟨_, rfl, ?_⟩
              replace p0' := xK p0'.out hb
              replace p1' := xK p1'.out hb
              replace p2' := xK p2'.out hb
              replace p3' := xK p3'.out hb
              replace p4' := xK p4'.out hb
              replace p5' := xK p5'.out hb
              replace HO398 := xK HO398.out hb
              replace HO401 := xK HO401.out hb
              replace BK338 := yK BK338.out hb
              replace BK339 := yK BK339.out hb
              replace BK358 := yK BK358.out hb
              replace BK366 := yK BK366.out hb
              replace BK377 := yK BK377.out hb
              replace HB := aM (zT (zH HB.out) hb)
              (try clear hb)
              obtain ⟨Ao146, co146, eo146⟩ := Kd.R_slice HO398.out
              (first | subst eo146 | obtain ⟨rfl, rfl⟩ := eI eo146)
              obtain ⟨Ao147, co147, eo147⟩ := Kd.R_slice HO401.out
              (first | subst eo147 | obtain ⟨rfl, rfl⟩ := eI eo147)
              refine hK.out _ _ ⟨yc BK338.out 0, yc BK338.out 1, yc BK338.out 2, yc BK339.out 0, yc BK339.out 1⟩ (fun hHeld => ?_)
              clear hK K
              refine norm_ (a' := ?_) ?_ ?_
              rotate_left
              ·show Act.put _ (some 83) _ = _
               simp only [Act.put, qA, qB, qC, i64_w, i32_w]
               rfl
              refine two_ (i := 4) (j := 8) (Ni := some 84) (Nj := some 14) #[tT,tT,tT,tT,tT,fF,fF,fF,fF,fF,fF] #[tT,tT,tT,tT,fF,fF,fF,fF,tT,fF,fF] rfl rfl rfl rfl (two_of HT_.out (by kernel_rfl)) (by decide) (by decide) (fun K hK => ?_) (fun K hK => ?_)
              ·skip
               refine gS Try.func33 (by kernel_rfl) rfl #[.agg #[.int .i64 t395, .slice Ao146 t396.length co146, .slice Ao147 t399.length co147], .agg #[.int .i64 t402, .int .i64 t403]] (by rfl) rfl rfl ?_
               with_reducible refine (impl_TakeExact.calls kj82 t395 _ _ t396 _ _ t399 t402 t403 t404 t405 t408 t411 _ ?side1 ?side2 ?side3 ?side4 A133.out).mono ?_
               (case side1 => repeat (first | exact (Kd.R_reads' HO398.out).2.2 | (with_reducible refine cA ?_ _) | (with_reducible refine cN ?_ _) | (with_reducible refine cD ?_)))
               (case side2 => exact (Kd.R_reads' HO398.out).2.1)
               (case side3 => repeat (first | exact (Kd.R_reads' HO401.out).2.2 | (with_reducible refine cA ?_ _) | (with_reducible refine cN ?_ _) | (with_reducible refine cD ?_)))
               (case side4 => exact (Kd.R_reads' HO401.out).2.1)
               rintro e w148 ⟨v406, v409, rfl, ho0, ho1, hb⟩
               refine ⟨_, rfl, ?_⟩
               have HO407 := aM (xL (Kd.R_new' (Kd.R_new' (Kd.R_new' (Kd.R_new' (Kd.R_new' (Kd.R_new' (Kd.R_new' (Kd.R_new' ho0 (Kd.R_lt (xH p0'.out))) (Kd.R_lt (xH p1'.out))) (Kd.R_lt (xH p2'.out))) (Kd.R_lt (xH p3'.out))) (Kd.R_lt (xH p4'.out))) (Kd.R_lt (xH p5'.out))) (Kd.R_lt (xH HO398.out))) (Kd.R_lt (xH HO401.out))) (zZ (zH HB.out)))
               have HO410 := aM (xL (Kd.R_new' (Kd.R_new' (Kd.R_new' (Kd.R_new' (Kd.R_new' (Kd.R_new' (Kd.R_new' (Kd.R_new' ho1 (Kd.R_lt (xH p0'.out))) (Kd.R_lt (xH p1'.out))) (Kd.R_lt (xH p2'.out))) (Kd.R_lt (xH p3'.out))) (Kd.R_lt (xH p4'.out))) (Kd.R_lt (xH p5'.out))) (Kd.R_lt (xH HO398.out))) (Kd.R_lt (xH HO401.out))) (zZ (zH HB.out)))
               replace p0' := aM (xM (Kd.R_told (Kd.R_told (Kd.R_old (xH p0'.out) hb) (Kd.R_base ho0)) (Kd.R_base ho1)) (fun _ h_ => h_.1))
               replace p1' := aM (xM (Kd.R_told (Kd.R_told (Kd.R_old (xH p1'.out) hb) (Kd.R_base ho0)) (Kd.R_base ho1)) (fun _ h_ => h_.1))
               replace p2' := aM (xM (Kd.R_told (Kd.R_told (Kd.R_old (xH p2'.out) hb) (Kd.R_base ho0)) (Kd.R_base ho1)) (fun _ h_ => h_.1))
               replace p3' := aM (xM (Kd.R_told (Kd.R_told (Kd.R_old (xH p3'.out) hb) (Kd.R_base ho0)) (Kd.R_base ho1)) (fun _ h_ => h_.1))
               replace p4' := aM (xM (Kd.R_told (Kd.R_told (Kd.R_old (xH p4'.out) hb) (Kd.R_base ho0)) (Kd.R_base ho1)) (fun _ h_ => h_.1))
               replace p5' := aM (xM (Kd.R_told (Kd.R_told (Kd.R_old (xH p5'.out) hb) (Kd.R_base ho0)) (Kd.R_base ho1)) (fun _ h_ => h_.1))
               replace HO398 := aM (xM (Kd.R_told (Kd.R_told (Kd.R_old (xH HO398.out) hb) (Kd.R_base ho0)) (Kd.R_base ho1)) (fun _ h_ => h_.1))
               replace HO401 := aM (xM (Kd.R_told (Kd.R_told (Kd.R_old (xH HO401.out) hb) (Kd.R_base ho0)) (Kd.R_base ho1)) (fun _ h_ => h_.1))
               replace BK338 := yK BK338.out hb
               replace BK339 := yK BK339.out hb
               replace BK358 := yK BK358.out hb
               replace BK366 := yK BK366.out hb
               replace BK377 := yK BK377.out hb
               replace HB := aM (zT (zH HB.out) hb)
               (try clear hb); (try clear ho0); (try clear ho1)
               refine hK.out _ _ ⟨yc BK338.out 0, yc BK338.out 1, yc BK338.out 2, yc BK339.out 0, yc BK339.out 1⟩ (fun hHeld => ?_)
               clear hK K
               refine norm_ (a' := ?_) ?_ ?_
               rotate_left
               ·show Act.put _ (some 84) _ = _
                simp only [Act.put, qA, qB, qC, i64_w, i32_w]
                rfl
               refine pure_ (i := 5) (N := some 79) (v := ?_) (a' := ?_) #[tT,tT,tT,tT,tT,tT,fF,fF,fF,fF,fF] rfl rfl (any_of HT_.out (by kernel_rfl)) (fun _ _ _ h => h) (Or.inl ⟨by rfl, ?_⟩) ?_ ?_
               rotate_left
               ·intro w'
                go_simp
                with_reducible rfl
               rotate_left
               ·simp only [Act.put, qA, qB, qC, i64_w, i32_w]
                rfl
               refine pure_ (i := 6) (N := some 85) (v := ?_) (a' := ?_) #[tT,tT,tT,tT,tT,tT,tT,fF,fF,fF,fF] rfl rfl (any_of HT_.out (by kernel_rfl)) (fun _ _ _ h => h) (Or.inl ⟨by rfl, ?_⟩) ?_ ?_
               rotate_left
               ·intro w'
                go_simp
                with_reducible rfl
               rotate_left
               ·simp only [Act.put, qA, qB, qC, i64_w, i32_w]
                rfl
               refine pure_ (i := 7) (N := some 86) (v := ?_) (a' := ?_) #[tT,tT,tT,tT,tT,tT,tT,tT,fF,fF,fF] rfl rfl (any_of HT_.out (by kernel_rfl)) (fun _ _ _ h => h) (Or.inl ⟨by rfl, ?_⟩) ?_ ?_
               rotate_left
               ·intro w'
                go_simp
                with_reducible rfl
               rotate_left
               ·simp only [Act.put, qA, qB, qC, i64_w, i32_w]
                rfl
               refine one_ (i := 8) (N := some 14) #[tT,tT,tT,tT,tT,tT,tT,tT,tT,fF,fF] rfl rfl (one_of HT_.out (by kernel_rfl)) (by decide) (fun K hK => ?_)
               refine box_step ?hg (N := 14) ?hd (cs := #[.int .i64 0, .slice none 0 0, .slice none 0 0]) (t := 24) ?hr ?_; (case hd => rfl); (case hg => rfl); (case hr => first | (go_simp; done) | (go_simp; rfl))
               intro gb412 hg w149 hbox hb
               replace p0' := xK p0'.out hb
               replace p1' := xK p1'.out hb
               replace p2' := xK p2'.out hb
               replace p3' := xK p3'.out hb
               replace p4' := xK p4'.out hb
               replace p5' := xK p5'.out hb
               replace HO398 := xK HO398.out hb
               replace HO401 := xK HO401.out hb
               replace HO407 := xK HO407.out hb
               replace HO410 := xK HO410.out hb
               have BK412 := aM (hbox)
               have GW412 := aM ((by rw [hg]; exact (zZ (zH HB.out)) : w.heap.size ≤ gb412))
               have GE412 := aM ((by rw [hg]; exact (zZ (zH HB.out)) : w.heap.size ≤ gb412))
               replace HB := aM (zT (zH HB.out) hb)
               have NB338_412 := nL BK338.out hg
               have NB412_338 := nR BK338.out hg
               replace BK338 := yK BK338.out hb
               have NB339_412 := nL BK339.out hg
               have NB412_339 := nR BK339.out hg
               replace BK339 := yK BK339.out hb
               have NB358_412 := nL BK358.out hg
               have NB412_358 := nR BK358.out hg
               replace BK358 := yK BK358.out hb
               have NB366_412 := nL BK366.out hg
               have NB412_366 := nR BK366.out hg
               replace BK366 := yK BK366.out hb
               have NB377_412 := nL BK377.out hg
               have NB412_377 := nR BK377.out hg
               replace BK377 := yK BK377.out hb
               clear hb hbox hg
               refine hK.out _ _ ⟨yc BK338.out 0, yc BK338.out 1, yc BK338.out 2, yc BK339.out 0, yc BK339.out 1⟩ (fun hHeld => ?_)
               clear hK K
               refine norm_ (a' := ?_) ?_ ?_
               rotate_left
               ·show Act.put _ (some 14) _ = _
                simp only [Act.put, qA, qB, qC, i64_w, i32_w]
                rfl
               exact norm_ (by simp only [putAll, Act.put, qA, qB, qC]) (hCont (.slice Ao146 t396.length co146, .slice Ao147 t399.length co147, v406, v409, gb412) _ ⟨hHeld, (xH (xM HO398.out (fun _ hk => ⟨hk.1.1.1.1.1.1.1.1, ⟨hk.1.2, ⟨hk.2, ⟨hk.1.1.1.1.1.1.1.2, ⟨hk.1.1.1.1.1.1.2, ⟨hk.1.1.1.1.1.2, ⟨hk.1.1.1.1.2, ⟨hk.1.1.1.2, hk.1.1.2⟩⟩⟩⟩⟩⟩⟩⟩))), (xH (xM HO401.out (fun _ hk => ⟨hk.1.1.1.1.1.1.1.1, ⟨hk.1.2, ⟨hk.2, ⟨hk.1.1.1.1.1.1.1.2, ⟨hk.1.1.1.1.1.1.2, ⟨hk.1.1.1.1.1.2, ⟨hk.1.1.1.1.2, ⟨hk.1.1.1.2, hk.1.1.2⟩⟩⟩⟩⟩⟩⟩⟩))), (xH (xM HO407.out (fun _ hk => ⟨hk.1.2, ⟨hk.2, ⟨hk.1.1.1.1.1.1.1.1, ⟨hk.1.1.1.1.1.1.1.2, ⟨hk.1.1.1.1.1.1.2, ⟨hk.1.1.1.1.1.2, ⟨hk.1.1.1.1.2, ⟨hk.1.1.1.2, hk.1.1.2⟩⟩⟩⟩⟩⟩⟩⟩))), (xH (xM HO410.out (fun _ hk => ⟨hk.1.2, ⟨hk.2, ⟨hk.1.1.1.1.1.1.1.1, ⟨hk.1.1.1.1.1.1.1.2, ⟨hk.1.1.1.1.1.1.2, ⟨hk.1.1.1.1.1.2, ⟨hk.1.1.1.1.2, ⟨hk.1.1.1.2, hk.1.1.2⟩⟩⟩⟩⟩⟩⟩⟩))), (xH (xM p0'.out (fun _ hk => ⟨hk.1.1.1.2, ⟨hk.1.1.2, ⟨hk.1.2, ⟨hk.2, ⟨hk.1.1.1.1.1, ⟨hk.1.1.1.1.2.1, ⟨hk.1.1.1.1.2.2.1, ⟨hk.1.1.1.1.2.2.2.1, hk.1.1.1.1.2.2.2.2⟩⟩⟩⟩⟩⟩⟩⟩))), (xH (xM p1'.out (fun _ hk => ⟨hk.1.1.1.2, ⟨hk.1.1.2, ⟨hk.1.2, ⟨hk.2, ⟨hk.1.1.1.1.1, ⟨hk.1.1.1.1.2.1, ⟨hk.1.1.1.1.2.2.1, ⟨hk.1.1.1.1.2.2.2.1, hk.1.1.1.1.2.2.2.2⟩⟩⟩⟩⟩⟩⟩⟩))), (xH (xM p2'.out (fun _ hk => ⟨hk.1.1.1.2, ⟨hk.1.1.2, ⟨hk.1.2, ⟨hk.2, ⟨hk.1.1.1.1.1, ⟨hk.1.1.1.1.2.1, ⟨hk.1.1.1.1.2.2.1, ⟨hk.1.1.1.1.2.2.2.1, hk.1.1.1.1.2.2.2.2⟩⟩⟩⟩⟩⟩⟩⟩))), (xH (xM p3'.out (fun _ hk => ⟨hk.1.1.1.2, ⟨hk.1.1.2, ⟨hk.1.2, ⟨hk.2, ⟨hk.1.1.1.1.1, ⟨hk.1.1.1.1.2.1, ⟨hk.1.1.1.1.2.2.1, ⟨hk.1.1.1.1.2.2.2.1, hk.1.1.1.1.2.2.2.2⟩⟩⟩⟩⟩⟩⟩⟩))), (xH (xM p4'.out (fun _ hk => ⟨hk.1.1.1.2, ⟨hk.1.1.2, ⟨hk.1.2, ⟨hk.2, ⟨hk.1.1.1.1.1, ⟨hk.1.1.1.1.2.1, ⟨hk.1.1.1.1.2.2.1, ⟨hk.1.1.1.1.2.2.2.1, hk.1.1.1.1.2.2.2.2⟩⟩⟩⟩⟩⟩⟩⟩))), (xH (xM p5'.out (fun _ hk => ⟨hk.1.1.1.2, ⟨hk.1.1.2, ⟨hk.1.2, ⟨hk.2, ⟨hk.1.1.1.1.1, ⟨hk.1.1.1.1.2.1, ⟨hk.1.1.1.1.2.2.1, ⟨hk.1.1.1.1.2.2.2.1, hk.1.1.1.1.2.2.2.2⟩⟩⟩⟩⟩⟩⟩⟩))), (yH BK338.out), (yH BK339.out), (yH BK358.out), (yH BK366.out), (yH BK377.out), (yH BK412.out), GW412.out, GE412.out, NB338_412.out, NB412_338.out, NB339_412.out, NB412_339.out, NB358_412.out, NB412_358.out, NB366_412.out, NB412_366.out, NB377_412.out, NB412_377.out, (zH HB.out)⟩)
              ·skip
               refine box_step ?hg (N := 14) ?hd (cs := #[.int .i64 0, .slice none 0 0, .slice none 0 0]) (t := 24) ?hr ?_; (case hd => rfl); (case hg => rfl); (case hr => first | (go_simp; done) | (go_simp; rfl))
               intro gb412 hg w146 hbox hb
               replace p0' := xK p0'.out hb
               replace p1' := xK p1'.out hb
               replace p2' := xK p2'.out hb
               replace p3' := xK p3'.out hb
               replace p4' := xK p4'.out hb
               replace p5' := xK p5'.out hb
               replace HO398 := xK HO398.out hb
               replace HO401 := xK HO401.out hb
               have BK412 := aM (hbox)
               have GW412 := aM ((by rw [hg]; exact (zZ (zH HB.out)) : w.heap.size ≤ gb412))
               have GE412 := aM ((by rw [hg]; exact (zZ (zH HB.out)) : w.heap.size ≤ gb412))
               replace HB := aM (zT (zH HB.out) hb)
               have NB338_412 := nL BK338.out hg
               have NB412_338 := nR BK338.out hg
               replace BK338 := yK BK338.out hb
               have NB339_412 := nL BK339.out hg
               have NB412_339 := nR BK339.out hg
               replace BK339 := yK BK339.out hb
               have NB358_412 := nL BK358.out hg
               have NB412_358 := nR BK358.out hg
               replace BK358 := yK BK358.out hb
               have NB366_412 := nL BK366.out hg
               have NB412_366 := nR BK366.out hg
               replace BK366 := yK BK366.out hb
               have NB377_412 := nL BK377.out hg
               have NB412_377 := nR BK377.out hg
               replace BK377 := yK BK377.out hb
               clear hb hbox hg
               obtain ⟨Ao147, co147, eo147⟩ := Kd.R_slice HO398.out
               (first | subst eo147 | obtain ⟨rfl, rfl⟩ := eI eo147)
               obtain ⟨Ao148, co148, eo148⟩ := Kd.R_slice HO401.out
               (first | subst eo148 | obtain ⟨rfl, rfl⟩ := eI eo148)
               refine hK.out _ _ ⟨yc BK338.out 0, yc BK338.out 1, yc BK338.out 2, yc BK339.out 0, yc BK339.out 1⟩ (fun hHeld => ?_)
               clear hK K
               refine norm_ (a' := ?_) ?_ ?_
               rotate_left
               ·show Act.put _ (some 14) _ = _
                simp only [Act.put, qA, qB, qC, i64_w, i32_w]
                rfl
               refine one_ (i := 4) (N := some 84) #[tT,tT,tT,tT,tT,fF,fF,fF,tT,fF,fF] rfl rfl (one_of HT_.out (by kernel_rfl)) (by decide) (fun K hK => ?_)
               refine gS Try.func33 (by kernel_rfl) rfl #[.agg #[.int .i64 t395, .slice Ao147 t396.length co147, .slice Ao148 t399.length co148], .agg #[.int .i64 t402, .int .i64 t403]] (by rfl) rfl rfl ?_
               with_reducible refine (impl_TakeExact.calls kj82 t395 _ _ t396 _ _ t399 t402 t403 t404 t405 t408 t411 _ ?side1 ?side2 ?side3 ?side4 A133.out).mono ?_
               (case side1 => repeat (first | exact (Kd.R_reads' HO398.out).2.2 | (with_reducible refine cA ?_ _) | (with_reducible refine cN ?_ _) | (with_reducible refine cD ?_)))
               (case side2 => exact (Kd.R_reads' HO398.out).2.1)
               (case side3 => repeat (first | exact (Kd.R_reads' HO401.out).2.2 | (with_reducible refine cA ?_ _) | (with_reducible refine cN ?_ _) | (with_reducible refine cD ?_)))
               (case side4 => exact (Kd.R_reads' HO401.out).2.1)
               rintro e w149 ⟨v406, v409, rfl, ho0, ho1, hb⟩
               refine ⟨_, rfl, ?_⟩
               have HO407 := aM (xL (Kd.R_new' (Kd.R_new' (Kd.R_new' (Kd.R_new' (Kd.R_new' (Kd.R_new' (Kd.R_new' (Kd.R_new' ho0 (Kd.R_lt (xH p0'.out))) (Kd.R_lt (xH p1'.out))) (Kd.R_lt (xH p2'.out))) (Kd.R_lt (xH p3'.out))) (Kd.R_lt (xH p4'.out))) (Kd.R_lt (xH p5'.out))) (Kd.R_lt (xH HO398.out))) (Kd.R_lt (xH HO401.out))) (zZ (zH HB.out)))
               have HO410 := aM (xL (Kd.R_new' (Kd.R_new' (Kd.R_new' (Kd.R_new' (Kd.R_new' (Kd.R_new' (Kd.R_new' (Kd.R_new' ho1 (Kd.R_lt (xH p0'.out))) (Kd.R_lt (xH p1'.out))) (Kd.R_lt (xH p2'.out))) (Kd.R_lt (xH p3'.out))) (Kd.R_lt (xH p4'.out))) (Kd.R_lt (xH p5'.out))) (Kd.R_lt (xH HO398.out))) (Kd.R_lt (xH HO401.out))) (zZ (zH HB.out)))
               replace p0' := aM (xM (Kd.R_told (Kd.R_told (Kd.R_old (xH p0'.out) hb) (Kd.R_base ho0)) (Kd.R_base ho1)) (fun _ h_ => h_.1))
               replace p1' := aM (xM (Kd.R_told (Kd.R_told (Kd.R_old (xH p1'.out) hb) (Kd.R_base ho0)) (Kd.R_base ho1)) (fun _ h_ => h_.1))
               replace p2' := aM (xM (Kd.R_told (Kd.R_told (Kd.R_old (xH p2'.out) hb) (Kd.R_base ho0)) (Kd.R_base ho1)) (fun _ h_ => h_.1))
               replace p3' := aM (xM (Kd.R_told (Kd.R_told (Kd.R_old (xH p3'.out) hb) (Kd.R_base ho0)) (Kd.R_base ho1)) (fun _ h_ => h_.1))
               replace p4' := aM (xM (Kd.R_told (Kd.R_told (Kd.R_old (xH p4'.out) hb) (Kd.R_base ho0)) (Kd.R_base ho1)) (fun _ h_ => h_.1))
               replace p5' := aM (xM (Kd.R_told (Kd.R_told (Kd.R_old (xH p5'.out) hb) (Kd.R_base ho0)) (Kd.R_base ho1)) (fun _ h_ => h_.1))
               replace HO398 := aM (xM (Kd.R_told (Kd.R_told (Kd.R_old (xH HO398.out) hb) (Kd.R_base ho0)) (Kd.R_base ho1)) (fun _ h_ => h_.1))
               replace HO401 := aM (xM (Kd.R_told (Kd.R_told (Kd.R_old (xH HO401.out) hb) (Kd.R_base ho0)) (Kd.R_base ho1)) (fun _ h_ => h_.1))
               replace BK338 := yK BK338.out hb
               replace BK339 := yK BK339.out hb
               replace BK358 := yK BK358.out hb
               replace BK366 := yK BK366.out hb
               replace BK377 := yK BK377.out hb
               replace BK412 := yK BK412.out hb
               replace HB := aM (zT (zH HB.out) hb)
               (try clear hb); (try clear ho0); (try clear ho1)
               refine hK.out _ _ ⟨yc BK338.out 0, yc BK338.out 1, yc BK338.out 2, yc BK339.out 0, yc BK339.out 1⟩ (fun hHeld => ?_)
               clear hK K
               refine norm_ (a' := ?_) ?_ ?_
               rotate_left
               ·show Act.put _ (some 84) _ = _
                simp only [Act.put, qA, qB, qC, i64_w, i32_w]
                rfl
               refine pure_ (i := 5) (N := some 79) (v := ?_) (a' := ?_) #[tT,tT,tT,tT,tT,tT,fF,fF,tT,fF,fF] rfl rfl (any_of HT_.out (by kernel_rfl)) (fun _ _ _ h => h) (Or.inl ⟨by rfl, ?_⟩) ?_ ?_
               rotate_left
               ·intro w'
                go_simp
                with_reducible rfl
               rotate_left
               ·simp only [Act.put, qA, qB, qC, i64_w, i32_w]
                rfl
               refine pure_ (i := 6) (N := some 85) (v := ?_) (a' := ?_) #[tT,tT,tT,tT,tT,tT,tT,fF,tT,fF,fF] rfl rfl (any_of HT_.out (by kernel_rfl)) (fun _ _ _ h => h) (Or.inl ⟨by rfl, ?_⟩) ?_ ?_
               rotate_left
               ·intro w'
                go_simp
                with_reducible rfl
               rotate_left
               ·simp only [Act.put, qA, qB, qC, i64_w, i32_w]
                rfl
               refine pure_ (i := 7) (N := some 86) (v := ?_) (a' := ?_) #[tT,tT,tT,tT,tT,tT,tT,tT,tT,fF,fF] rfl rfl (any_of HT_.out (by kernel_rfl)) (fun _ _ _ h => h) (Or.inl ⟨by rfl, ?_⟩) ?_ ?_
               rotate_left
               ·intro w'
                go_simp
                with_reducible rfl
               rotate_left
               ·simp only [Act.put, qA, qB, qC, i64_w, i32_w]
                rfl
               exact norm_ (by simp only [putAll, Act.put, qA, qB, qC]) (hCont (.slice Ao147 t396.length co147, .slice Ao148 t399.length co148, v406, v409, gb412) _ ⟨hHeld, (xH (xM HO398.out (fun _ hk => ⟨hk.1.1.1.1.1.1.1.1, ⟨hk.1.2, ⟨hk.2, ⟨hk.1.1.1.1.1.1.1.2, ⟨hk.1.1.1.1.1.1.2, ⟨hk.1.1.1.1.1.2, ⟨hk.1.1.1.1.2, ⟨hk.1.1.1.2, hk.1.1.2⟩⟩⟩⟩⟩⟩⟩⟩))), (xH (xM HO401.out (fun _ hk => ⟨hk.1.1.1.1.1.1.1.1, ⟨hk.1.2, ⟨hk.2, ⟨hk.1.1.1.1.1.1.1.2, ⟨hk.1.1.1.1.1.1.2, ⟨hk.1.1.1.1.1.2, ⟨hk.1.1.1.1.2, ⟨hk.1.1.1.2, hk.1.1.2⟩⟩⟩⟩⟩⟩⟩⟩))), (xH (xM HO407.out (fun _ hk => ⟨hk.1.2, ⟨hk.2, ⟨hk.1.1.1.1.1.1.1.1, ⟨hk.1.1.1.1.1.1.1.2, ⟨hk.1.1.1.1.1.1.2, ⟨hk.1.1.1.1.1.2, ⟨hk.1.1.1.1.2, ⟨hk.1.1.1.2, hk.1.1.2⟩⟩⟩⟩⟩⟩⟩⟩))), (xH (xM HO410.out (fun _ hk => ⟨hk.1.2, ⟨hk.2, ⟨hk.1.1.1.1.1.1.1.1, ⟨hk.1.1.1.1.1.1.1.2, ⟨hk.1.1.1.1.1.1.2, ⟨hk.1.1.1.1.1.2, ⟨hk.1.1.1.1.2, ⟨hk.1.1.1.2, hk.1.1.2⟩⟩⟩⟩⟩⟩⟩⟩))), (xH (xM p0'.out (fun _ hk => ⟨hk.1.1.1.2, ⟨hk.1.1.2, ⟨hk.1.2, ⟨hk.2, ⟨hk.1.1.1.1.1, ⟨hk.1.1.1.1.2.1, ⟨hk.1.1.1.1.2.2.1, ⟨hk.1.1.1.1.2.2.2.1, hk.1.1.1.1.2.2.2.2⟩⟩⟩⟩⟩⟩⟩⟩))), (xH (xM p1'.out (fun _ hk => ⟨hk.1.1.1.2, ⟨hk.1.1.2, ⟨hk.1.2, ⟨hk.2, ⟨hk.1.1.1.1.1, ⟨hk.1.1.1.1.2.1, ⟨hk.1.1.1.1.2.2.1, ⟨hk.1.1.1.1.2.2.2.1, hk.1.1.1.1.2.2.2.2⟩⟩⟩⟩⟩⟩⟩⟩))), (xH (xM p2'.out (fun _ hk => ⟨hk.1.1.1.2, ⟨hk.1.1.2, ⟨hk.1.2, ⟨hk.2, ⟨hk.1.1.1.1.1, ⟨hk.1.1.1.1.2.1, ⟨hk.1.1.1.1.2.2.1, ⟨hk.1.1.1.1.2.2.2.1, hk.1.1.1.1.2.2.2.2⟩⟩⟩⟩⟩⟩⟩⟩))), (xH (xM p3'.out (fun _ hk => ⟨hk.1.1.1.2, ⟨hk.1.1.2, ⟨hk.1.2, ⟨hk.2, ⟨hk.1.1.1.1.1, ⟨hk.1.1.1.1.2.1, ⟨hk.1.1.1.1.2.2.1, ⟨hk.1.1.1.1.2.2.2.1, hk.1.1.1.1.2.2.2.2⟩⟩⟩⟩⟩⟩⟩⟩))), (xH (xM p4'.out (fun _ hk => ⟨hk.1.1.1.2, ⟨hk.1.1.2, ⟨hk.1.2, ⟨hk.2, ⟨hk.1.1.1.1.1, ⟨hk.1.1.1.1.2.1, ⟨hk.1.1.1.1.2.2.1, ⟨hk.1.1.1.1.2.2.2.1, hk.1.1.1.1.2.2.2.2⟩⟩⟩⟩⟩⟩⟩⟩))), (xH (xM p5'.out (fun _ hk => ⟨hk.1.1.1.2, ⟨hk.1.1.2, ⟨hk.1.2, ⟨hk.2, ⟨hk.1.1.1.1.1, ⟨hk.1.1.1.1.2.1, ⟨hk.1.1.1.1.2.2.1, ⟨hk.1.1.1.1.2.2.2.1, hk.1.1.1.1.2.2.2.2⟩⟩⟩⟩⟩⟩⟩⟩))), (yH BK338.out), (yH BK339.out), (yH BK358.out), (yH BK366.out), (yH BK377.out), (yH BK412.out), GW412.out, GE412.out, NB338_412.out, NB412_338.out, NB339_412.out, NB412_339.out, NB358_412.out, NB412_358.out, NB366_412.out, NB412_366.out, NB377_412.out, NB412_377.out, (zH HB.out)⟩)
             ·skip
              refine box_step ?hg (N := 14) ?hd (cs := #[.int .i64 0, .slice none 0 0, .slice none 0 0]) (t := 24) ?hr ?_; (case hd => rfl); (case hg => rfl); (case hr => first | (go_simp; done) | (go_simp; rfl))
              intro gb412 hg w145 hbox hb
              replace p0' := xK p0'.out hb
              replace p1' := xK p1'.out hb
              replace p2' := xK p2'.out hb
              replace p3' := xK p3'.out hb
              replace p4' := xK p4'.out hb
              replace p5' := xK p5'.out hb
              replace HO398 := xK HO398.out hb
              replace HO401 := xK HO401.out hb
              have BK412 := aM (hbox)
              have GW412 := aM ((by rw [hg]; exact (zZ (zH HB.out)) : w.heap.size ≤ gb412))
              have GE412 := aM ((by rw [hg]; exact (zZ (zH HB.out)) : w.heap.size ≤ gb412))
              replace HB := aM (zT (zH HB.out) hb)
              have NB338_412 := nL BK338.out hg
              have NB412_338 := nR BK338.out hg
              replace BK338 := yK BK338.out hb
              have NB339_412 := nL BK339.out hg
              have NB412_339 := nR BK339.out hg
              replace BK339 := yK BK339.out hb
              have NB358_412 := nL BK358.out hg
              have NB412_358 := nR BK358.out hg
              replace BK358 := yK BK358.out hb
              have NB366_412 := nL BK366.out hg
              have NB412_366 := nR BK366.out hg
              replace BK366 := yK BK366.out hb
              have NB377_412 := nL BK377.out hg
              have NB412_377 := nR BK377.out hg
              replace BK377 := yK BK377.out hb
              clear hb hbox hg
              refine hK.out _ _ ⟨yc BK338.out 0, yc BK338.out 1, yc BK338.out 2, yc BK339.out 0, yc BK339.out 1⟩ (fun hHeld => ?_)
              clear hK K
              refine norm_ (a' := ?_) ?_ ?_
              rotate_left
              ·show Act.put _ (some 14) _ = _
               simp only [Act.put, qA, qB, qC, i64_w, i32_w]
               rfl
              refine one_ (i := 3) (N := some 83) #[tT,tT,tT,tT,fF,fF,fF,fF,tT,fF,fF] rfl rfl (one_of HT_.out (by kernel_rfl)) (by decide) (fun K hK => ?_)
              refine gS Try.func30 (by kernel_rfl) rfl #[.agg #[.int .i64 a1_0, .int .i64 a1_1]] (by rfl) rfl rfl ?_
              with_reducible refine (laws_toExtent.calls a1_0 a1_1 t402 t403 _ A132.out).mono ?_
              rintro e w146 ⟨rfl, hb⟩
              refine ⟨_, rfl, ?_⟩
              replace p0' := xK p0'.out hb
              replace p1' := xK p1'.out hb
              replace p2' := xK p2'.out hb
              replace p3' := xK p3'.out hb
              replace p4' := xK p4'.out hb
              replace p5' := xK p5'.out hb
              replace HO398 := xK HO398.out hb
              replace HO401 := xK HO401.out hb
              replace BK338 := yK BK338.out hb
              replace BK339 := yK BK339.out hb
              replace BK358 := yK BK358.out hb
              replace BK366 := yK BK366.out hb
              replace BK377 := yK BK377.out hb
              replace BK412 := yK BK412.out hb
              replace HB := aM (zT (zH HB.out) hb)
              (try clear hb)
              obtain ⟨Ao147, co147, eo147⟩ := Kd.R_slice HO398.out
              (first | subst eo147 | obtain ⟨rfl, rfl⟩ := eI eo147)
              obtain ⟨Ao148, co148, eo148⟩ := Kd.R_slice HO401.out
              (first | subst eo148 | obtain ⟨rfl, rfl⟩ := eI eo148)
              refine hK.out _ _ ⟨yc BK338.out 0, yc BK338.out 1, yc BK338.out 2, yc BK339.out 0, yc BK339.out 1⟩ (fun hHeld => ?_)
              clear hK K
              refine norm_ (a' := ?_) ?_ ?_
              rotate_left
              ·show Act.put _ (some 83) _ = _
               simp only [Act.put, qA, qB, qC, i64_w, i32_w]
               rfl
              refine one_ (i := 4) (N := some 84) #[tT,tT,tT,tT,tT,fF,fF,fF,tT,fF,fF] rfl rfl (one_of HT_.out (by kernel_rfl)) (by decide) (fun K hK => ?_)
              refine gS Try.func33 (by kernel_rfl) rfl #[.agg #[.int .i64 t395, .slice Ao147 t396.length co147, .slice Ao148 t399.length co148], .agg #[.int .i64 t402, .int .i64 t403]] (by rfl) rfl rfl ?_
              with_reducible refine (impl_TakeExact.calls kj82 t395 _ _ t396 _ _ t399 t402 t403 t404 t405 t408 t411 _ ?side1 ?side2 ?side3 ?side4 A133.out).mono ?_
              (case side1 => repeat (first | exact (Kd.R_reads' HO398.out).2.2 | (with_reducible refine cA ?_ _) | (with_reducible refine cN ?_ _) | (with_reducible refine cD ?_)))
              (case side2 => exact (Kd.R_reads' HO398.out).2.1)
              (case side3 => repeat (first | exact (Kd.R_reads' HO401.out).2.2 | (with_reducible refine cA ?_ _) | (with_reducible refine cN ?_ _) | (with_reducible refine cD ?_)))
              (case side4 => exact (Kd.R_reads' HO401.out).2.1)
              rintro e w149 ⟨v406, v409, rfl, ho0, ho1, hb⟩
              refine ⟨_, rfl, ?_⟩
              have HO407 := aM (xL (Kd.R_new' (Kd.R_new' (Kd.R_new' (Kd.R_new' (Kd.R_new' (Kd.R_new' (Kd.R_new' (Kd.R_new' ho0 (Kd.R_lt (xH p0'.out))) (Kd.R_lt (xH p1'.out))) (Kd.R_lt (xH p2'.out))) (Kd.R_lt (xH p3'.out))) (Kd.R_lt (xH p4'.out))) (Kd.R_lt (xH p5'.out))) (Kd.R_lt (xH HO398.out))) (Kd.R_lt (xH HO401.out))) (zZ (zH HB.out)))
              have HO410 := aM (xL (Kd.R_new' (Kd.R_new' (Kd.R_new' (Kd.R_new' (Kd.R_new' (Kd.R_new' (Kd.R_new' (Kd.R_new' ho1 (Kd.R_lt (xH p0'.out))) (Kd.R_lt (xH p1'.out))) (Kd.R_lt (xH p2'.out))) (Kd.R_lt (xH p3'.out))) (Kd.R_lt (xH p4'.out))) (Kd.R_lt (xH p5'.out))) (Kd.R_lt (xH HO398.out))) (Kd.R_lt (xH HO401.out))) (zZ (zH HB.out)))
              replace p0' := aM (xM (Kd.R_told (Kd.R_told (Kd.R_old (xH p0'.out) hb) (Kd.R_base ho0)) (Kd.R_base ho1)) (fun _ h_ => h_.1))
              replace p1' := aM (xM (Kd.R_told (Kd.R_told (Kd.R_old (xH p1'.out) hb) (Kd.R_base ho0)) (Kd.R_base ho1)) (fun _ h_ => h_.1))
              replace p2' := aM (xM (Kd.R_told (Kd.R_told (Kd.R_old (xH p2'.out) hb) (Kd.R_base ho0)) (Kd.R_base ho1)) (fun _ h_ => h_.1))
              replace p3' := aM (xM (Kd.R_told (Kd.R_told (Kd.R_old (xH p3'.out) hb) (Kd.R_base ho0)) (Kd.R_base ho1)) (fun _ h_ => h_.1))
              replace p4' := aM (xM (Kd.R_told (Kd.R_told (Kd.R_old (xH p4'.out) hb) (Kd.R_base ho0)) (Kd.R_base ho1)) (fun _ h_ => h_.1))
              replace p5' := aM (xM (Kd.R_told (Kd.R_told (Kd.R_old (xH p5'.out) hb) (Kd.R_base ho0)) (Kd.R_base ho1)) (fun _ h_ => h_.1))
              replace HO398 := aM (xM (Kd.R_told (Kd.R_told (Kd.R_old (xH HO398.out) hb) (Kd.R_base ho0)) (Kd.R_base ho1)) (fun _ h_ => h_.1))
              replace HO401 := aM (xM (Kd.R_told (Kd.R_told (Kd.R_old (xH HO401.out) hb) (Kd.R_base ho0)) (Kd.R_base ho1)) (fun _ h_ => h_.1))
              replace BK338 := yK BK338.out hb
              replace BK339 := yK BK339.out hb
              replace BK358 := yK BK358.out hb
              replace BK366 := yK BK366.out hb
              replace BK377 := yK BK377.out hb
              replace BK412 := yK BK412.out hb
              replace HB := aM (zT (zH HB.out) hb)
              (try clear hb); (try clear ho0); (try clear ho1)
              refine hK.out _ _ ⟨yc BK338.out 0, yc BK338.out 1, yc BK338.out 2, yc BK339.out 0, yc BK339.out 1⟩ (fun hHeld => ?_)
              clear hK K
              refine norm_ (a' := ?_) ?_ ?_
              rotate_left
              ·show Act.put _ (some 84) _ = _
               simp only [Act.put, qA, qB, qC, i64_w, i32_w]
               rfl
              refine pure_ (i := 5) (N := some 79) (v := ?_) (a' := ?_) #[tT,tT,tT,tT,tT,tT,fF,fF,tT,fF,fF] rfl rfl (any_of HT_.out (by kernel_rfl)) (fun _ _ _ h => h) (Or.inl ⟨by rfl, ?_⟩) ?_ ?_
              rotate_left
              ·intro w'
               go_simp
               with_reducible rfl
              rotate_left
              ·simp only [Act.put, qA, qB, qC, i64_w, i32_w]
               rfl
              refine pure_ (i := 6) (N := some 85) (v := ?_) (a' := ?_) #[tT,tT,tT,tT,tT,tT,tT,fF,tT,fF,fF] rfl rfl (any_of HT_.out (by kernel_rfl)) (fun _ _ _ h => h) (Or.inl ⟨by rfl, ?_⟩) ?_ ?_
              rotate_left
              ·intro w'
               go_simp
               with_reducible rfl
              rotate_left
              ·simp only [Act.put, qA, qB, qC, i64_w, i32_w]
               rfl
              refine pure_ (i := 7) (N := some 86) (v := ?_) (a' := ?_) #[tT,tT,tT,tT,tT,tT,tT,tT,tT,fF,fF] rfl rfl (any_of HT_.out (by kernel_rfl)) (fun _ _ _ h => h) (Or.inl ⟨by rfl, ?_⟩) ?_ ?_
              rotate_left
              ·intro w'
               go_simp
               with_reducible rfl
              rotate_left
              ·simp only [Act.put, qA, qB, qC, i64_w, i32_w]
               rfl
              exact norm_ (by simp only [putAll, Act.put, qA, qB, qC]) (hCont (.slice Ao147 t396.length co147, .slice Ao148 t399.length co148, v406, v409, gb412) _ ⟨hHeld, (xH (xM HO398.out (fun _ hk => ⟨hk.1.1.1.1.1.1.1.1, ⟨hk.1.2, ⟨hk.2, ⟨hk.1.1.1.1.1.1.1.2, ⟨hk.1.1.1.1.1.1.2, ⟨hk.1.1.1.1.1.2, ⟨hk.1.1.1.1.2, ⟨hk.1.1.1.2, hk.1.1.2⟩⟩⟩⟩⟩⟩⟩⟩))), (xH (xM HO401.out (fun _ hk => ⟨hk.1.1.1.1.1.1.1.1, ⟨hk.1.2, ⟨hk.2, ⟨hk.1.1.1.1.1.1.1.2, ⟨hk.1.1.1.1.1.1.2, ⟨hk.1.1.1.1.1.2, ⟨hk.1.1.1.1.2, ⟨hk.1.1.1.2, hk.1.1.2⟩⟩⟩⟩⟩⟩⟩⟩))), (xH (xM HO407.out (fun _ hk => ⟨hk.1.2, ⟨hk.2, ⟨hk.1.1.1.1.1.1.1.1, ⟨hk.1.1.1.1.1.1.1.2, ⟨hk.1.1.1.1.1.1.2, ⟨hk.1.1.1.1.1.2, ⟨hk.1.1.1.1.2, ⟨hk.1.1.1.2, hk.1.1.2⟩⟩⟩⟩⟩⟩⟩⟩))), (xH (xM HO410.out (fun _ hk => ⟨hk.1.2, ⟨hk.2, ⟨hk.1.1.1.1.1.1.1.1, ⟨hk.1.1.1.1.1.1.1.2, ⟨hk.1.1.1.1.1.1.2, ⟨hk.1.1.1.1.1.2, ⟨hk.1.1.1.1.2, ⟨hk.1.1.1.2, hk.1.1.2⟩⟩⟩⟩⟩⟩⟩⟩))), (xH (xM p0'.out (fun _ hk => ⟨hk.1.1.1.2, ⟨hk.1.1.2, ⟨hk.1.2, ⟨hk.2, ⟨hk.1.1.1.1.1, ⟨hk.1.1.1.1.2.1, ⟨hk.1.1.1.1.2.2.1, ⟨hk.1.1.1.1.2.2.2.1, hk.1.1.1.1.2.2.2.2⟩⟩⟩⟩⟩⟩⟩⟩))), (xH (xM p1'.out (fun _ hk => ⟨hk.1.1.1.2, ⟨hk.1.1.2, ⟨hk.1.2, ⟨hk.2, ⟨hk.1.1.1.1.1, ⟨hk.1.1.1.1.2.1, ⟨hk.1.1.1.1.2.2.1, ⟨hk.1.1.1.1.2.2.2.1, hk.1.1.1.1.2.2.2.2⟩⟩⟩⟩⟩⟩⟩⟩))), (xH (xM p2'.out (fun _ hk => ⟨hk.1.1.1.2, ⟨hk.1.1.2, ⟨hk.1.2, ⟨hk.2, ⟨hk.1.1.1.1.1, ⟨hk.1.1.1.1.2.1, ⟨hk.1.1.1.1.2.2.1, ⟨hk.1.1.1.1.2.2.2.1, hk.1.1.1.1.2.2.2.2⟩⟩⟩⟩⟩⟩⟩⟩))), (xH (xM p3'.out (fun _ hk => ⟨hk.1.1.1.2, ⟨hk.1.1.2, ⟨hk.1.2, ⟨hk.2, ⟨hk.1.1.1.1.1, ⟨hk.1.1.1.1.2.1, ⟨hk.1.1.1.1.2.2.1, ⟨hk.1.1.1.1.2.2.2.1, hk.1.1.1.1.2.2.2.2⟩⟩⟩⟩⟩⟩⟩⟩))), (xH (xM p4'.out (fun _ hk => ⟨hk.1.1.1.2, ⟨hk.1.1.2, ⟨hk.1.2, ⟨hk.2, ⟨hk.1.1.1.1.1, ⟨hk.1.1.1.1.2.1, ⟨hk.1.1.1.1.2.2.1, ⟨hk.1.1.1.1.2.2.2.1, hk.1.1.1.1.2.2.2.2⟩⟩⟩⟩⟩⟩⟩⟩))), (xH (xM p5'.out (fun _ hk => ⟨hk.1.1.1.2, ⟨hk.1.1.2, ⟨hk.1.2, ⟨hk.2, ⟨hk.1.1.1.1.1, ⟨hk.1.1.1.1.2.1, ⟨hk.1.1.1.1.2.2.1, ⟨hk.1.1.1.1.2.2.2.1, hk.1.1.1.1.2.2.2.2⟩⟩⟩⟩⟩⟩⟩⟩))), (yH BK338.out), (yH BK339.out), (yH BK358.out), (yH BK366.out), (yH BK377.out), (yH BK412.out), GW412.out, GE412.out, NB338_412.out, NB412_338.out, NB339_412.out, NB412_339.out, NB358_412.out, NB412_358.out, NB366_412.out, NB412_366.out, NB377_412.out, NB412_377.out, (zH HB.out)⟩)
            ·skip
             refine box_step ?hg (N := 14) ?hd (cs := #[.int .i64 0, .slice none 0 0, .slice none 0 0]) (t := 24) ?hr ?_; (case hd => rfl); (case hg => rfl); (case hr => first | (go_simp; done) | (go_simp; rfl))
             intro gb412 hg w144 hbox hb
             replace p0' := xK p0'.out hb
             replace p1' := xK p1'.out hb
             replace p2' := xK p2'.out hb
             replace p3' := xK p3'.out hb
             replace p4' := xK p4'.out hb
             replace p5' := xK p5'.out hb
             have BK412 := aM (hbox)
             have GW412 := aM ((by rw [hg]; exact (zZ (zH HB.out)) : w.heap.size ≤ gb412))
             have GE412 := aM ((by rw [hg]; exact (zZ (zH HB.out)) : w.heap.size ≤ gb412))
             replace HB := aM (zT (zH HB.out) hb)
             have NB338_412 := nL BK338.out hg
             have NB412_338 := nR BK338.out hg
             replace BK338 := yK BK338.out hb
             have NB339_412 := nL BK339.out hg
             have NB412_339 := nR BK339.out hg
             replace BK339 := yK BK339.out hb
             have NB358_412 := nL BK358.out hg
             have NB412_358 := nR BK358.out hg
             replace BK358 := yK BK358.out hb
             have NB366_412 := nL BK366.out hg
             have NB412_366 := nR BK366.out hg
             replace BK366 := yK BK366.out hb
             have NB377_412 := nL BK377.out hg
             have NB412_377 := nR BK377.out hg
             replace BK377 := yK BK377.out hb
             clear hb hbox hg
             refine hK.out _ _ ⟨yc BK338.out 0, yc BK338.out 1, yc BK338.out 2, yc BK339.out 0, yc BK339.out 1⟩ (fun hHeld => ?_)
             clear hK K
             refine norm_ (a' := ?_) ?_ ?_
             rotate_left
             ·show Act.put _ (some 14) _ = _
              simp only [Act.put, qA, qB, qC, i64_w, i32_w]
              rfl
             refine one_ (i := 1) (N := some 81) #[tT,tT,tT,fF,fF,fF,fF,fF,tT,fF,fF] rfl rfl (one_of HT_.out (by kernel_rfl)) (by decide) (fun K hK => ?_)
             refine gS Try.func18 (by kernel_rfl) rfl #[.agg #[.int .i64 a0_0, .slice A0_1 l0_1.length c0_1, .slice A0_2 l0_2.length c0_2]] (by rfl) rfl rfl ?_
             with_reducible refine (laws_toFree.calls kj82 a0_0 _ _ l0_1 _ _ l0_2 t395 t396 t399 _ ?side1 ?side2 ?side3 ?side4 A131.out).mono ?_
             (case side1 => exact cK HR0_1.out HB.out)
             (case side2 => exact HC0_1.out)
             (case side3 => exact cK HR0_2.out HB.out)
             (case side4 => exact HC0_2.out)
             rintro e w145 ⟨v397, v400, rfl, ho0, ho1, hb⟩
             refine ⟨_, rfl, ?_⟩
             have HO398 := aM (xL (Kd.R_new' (Kd.R_new' (Kd.R_new' (Kd.R_new' (Kd.R_new' (Kd.R_new' ho0 (Kd.R_lt (xH p0'.out))) (Kd.R_lt (xH p1'.out))) (Kd.R_lt (xH p2'.out))) (Kd.R_lt (xH p3'.out))) (Kd.R_lt (xH p4'.out))) (Kd.R_lt (xH p5'.out))) (zZ (zH HB.out)))
             have HO401 := aM (xL (Kd.R_new' (Kd.R_new' (Kd.R_new' (Kd.R_new' (Kd.R_new' (Kd.R_new' ho1 (Kd.R_lt (xH p0'.out))) (Kd.R_lt (xH p1'.out))) (Kd.R_lt (xH p2'.out))) (Kd.R_lt (xH p3'.out))) (Kd.R_lt (xH p4'.out))) (Kd.R_lt (xH p5'.out))) (zZ (zH HB.out)))
             replace p0' := aM (xM (Kd.R_told (Kd.R_told (Kd.R_old (xH p0'.out) hb) (Kd.R_base ho0)) (Kd.R_base ho1)) (fun _ h_ => h_.1))
             replace p1' := aM (xM (Kd.R_told (Kd.R_told (Kd.R_old (xH p1'.out) hb) (Kd.R_base ho0)) (Kd.R_base ho1)) (fun _ h_ => h_.1))
             replace p2' := aM (xM (Kd.R_told (Kd.R_told (Kd.R_old (xH p2'.out) hb) (Kd.R_base ho0)) (Kd.R_base ho1)) (fun _ h_ => h_.1))
             replace p3' := aM (xM (Kd.R_told (Kd.R_told (Kd.R_old (xH p3'.out) hb) (Kd.R_base ho0)) (Kd.R_base ho1)) (fun _ h_ => h_.1))
             replace p4' := aM (xM (Kd.R_told (Kd.R_told (Kd.R_old (xH p4'.out) hb) (Kd.R_base ho0)) (Kd.R_base ho1)) (fun _ h_ => h_.1))
             replace p5' := aM (xM (Kd.R_told (Kd.R_told (Kd.R_old (xH p5'.out) hb) (Kd.R_base ho0)) (Kd.R_base ho1)) (fun _ h_ => h_.1))
             replace BK338 := yK BK338.out hb
             replace BK339 := yK BK339.out hb
             replace BK358 := yK BK358.out hb
             replace BK366 := yK BK366.out hb
             replace BK377 := yK BK377.out hb
             replace BK412 := yK BK412.out hb
             replace HB := aM (zT (zH HB.out) hb)
             (try clear hb); (try clear ho0); (try clear ho1)
             refine hK.out _ _ ⟨yc BK338.out 0, yc BK338.out 1, yc BK338.out 2, yc BK339.out 0, yc BK339.out 1⟩ (fun hHeld => ?_)
             clear hK K
             refine norm_ (a' := ?_) ?_ ?_
             rotate_left
             ·show Act.put _ (some 81) _ = _
              simp only [Act.put, qA, qB, qC, i64_w, i32_w]
              rfl
             refine one_ (i := 3) (N := some 83) #[tT,tT,tT,tT,fF,fF,fF,fF,tT,fF,fF] rfl rfl (one_of HT_.out (by kernel_rfl)) (by decide) (fun K hK => ?_)
             refine gS Try.func30 (by kernel_rfl) rfl #[.agg #[.int .i64 a1_0, .int .i64 a1_1]] (by rfl) rfl rfl ?_
             with_reducible refine (laws_toExtent.calls a1_0 a1_1 t402 t403 _ A132.out).mono ?_
             rintro e w146 ⟨rfl, hb⟩
             refine ⟨_, rfl, ?_⟩
             replace p0' := xK p0'.out hb
             replace p1' := xK p1'.out hb
             replace p2' := xK p2'.out hb
             replace p3' := xK p3'.out hb
             replace p4' := xK p4'.out hb
             replace p5' := xK p5'.out hb
             replace HO398 := xK HO398.out hb
             replace HO401 := xK HO401.out hb
             replace BK338 := yK BK338.out hb
             replace BK339 := yK BK339.out hb
             replace BK358 := yK BK358.out hb
             replace BK366 := yK BK366.out hb
             replace BK377 := yK BK377.out hb
             replace BK412 := yK BK412.out hb
             replace HB := aM (zT (zH HB.out) hb)
             (try clear hb)
             obtain ⟨Ao147, co147, eo147⟩ := Kd.R_slice HO398.out
             (first | subst eo147 | obtain ⟨rfl, rfl⟩ := eI eo147)
             obtain ⟨Ao148, co148, eo148⟩ := Kd.R_slice HO401.out
             (first | subst eo148 | obtain ⟨rfl, rfl⟩ := eI eo148)
             refine hK.out _ _ ⟨yc BK338.out 0, yc BK338.out 1, yc BK338.out 2, yc BK339.out 0, yc BK339.out 1⟩ (fun hHeld => ?_)
             clear hK K
             refine norm_ (a' := ?_) ?_ ?_
             rotate_left
             ·show Act.put _ (some 83) _ = _
              simp only [Act.put, qA, qB, qC, i64_w, i32_w]
              rfl
             refine one_ (i := 4) (N := some 84) #[tT,tT,tT,tT,tT,fF,fF,fF,tT,fF,fF] rfl rfl (one_of HT_.out (by kernel_rfl)) (by decide) (fun K hK => ?_)
             refine gS Try.func33 (by kernel_rfl) rfl #[.agg #[.int .i64 t395, .slice Ao147 t396.length co147, .slice Ao148 t399.length co148], .agg #[.int .i64 t402, .int .i64 t403]] (by rfl) rfl rfl ?_
             with_reducible refine (impl_TakeExact.calls kj82 t395 _ _ t396 _ _ t399 t402 t403 t404 t405 t408 t411 _ ?side1 ?side2 ?side3 ?side4 A133.out).mono ?_
             (case side1 => repeat (first | exact (Kd.R_reads' HO398.out).2.2 | (with_reducible refine cA ?_ _) | (with_reducible refine cN ?_ _) | (with_reducible refine cD ?_)))
             (case side2 => exact (Kd.R_reads' HO398.out).2.1)
             (case side3 => repeat (first | exact (Kd.R_reads' HO401.out).2.2 | (with_reducible refine cA ?_ _) | (with_reducible refine cN ?_ _) | (with_reducible refine cD ?_)))
             (case side4 => exact (Kd.R_reads' HO401.out).2.1)
             rintro e w149 ⟨v406, v409, rfl, ho0, ho1, hb⟩
             refine ⟨_, rfl, ?_⟩
             have HO407 := aM (xL (Kd.R_new' (Kd.R_new' (Kd.R_new' (Kd.R_new' (Kd.R_new' (Kd.R_new' (Kd.R_new' (Kd.R_new' ho0 (Kd.R_lt (xH p0'.out))) (Kd.R_lt (xH p1'.out))) (Kd.R_lt (xH p2'.out))) (Kd.R_lt (xH p3'.out))) (Kd.R_lt (xH p4'.out))) (Kd.R_lt (xH p5'.out))) (Kd.R_lt (xH HO398.out))) (Kd.R_lt (xH HO401.out))) (zZ (zH HB.out)))
             have HO410 := aM (xL (Kd.R_new' (Kd.R_new' (Kd.R_new' (Kd.R_new' (Kd.R_new' (Kd.R_new' (Kd.R_new' (Kd.R_new' ho1 (Kd.R_lt (xH p0'.out))) (Kd.R_lt (xH p1'.out))) (Kd.R_lt (xH p2'.out))) (Kd.R_lt (xH p3'.out))) (Kd.R_lt (xH p4'.out))) (Kd.R_lt (xH p5'.out))) (Kd.R_lt (xH HO398.out))) (Kd.R_lt (xH HO401.out))) (zZ (zH HB.out)))
             replace p0' := aM (xM (Kd.R_told (Kd.R_told (Kd.R_old (xH p0'.out) hb) (Kd.R_base ho0)) (Kd.R_base ho1)) (fun _ h_ => h_.1))
             replace p1' := aM (xM (Kd.R_told (Kd.R_told (Kd.R_old (xH p1'.out) hb) (Kd.R_base ho0)) (Kd.R_base ho1)) (fun _ h_ => h_.1))
             replace p2' := aM (xM (Kd.R_told (Kd.R_told (Kd.R_old (xH p2'.out) hb) (Kd.R_base ho0)) (Kd.R_base ho1)) (fun _ h_ => h_.1))
             replace p3' := aM (xM (Kd.R_told (Kd.R_told (Kd.R_old (xH p3'.out) hb) (Kd.R_base ho0)) (Kd.R_base ho1)) (fun _ h_ => h_.1))
             replace p4' := aM (xM (Kd.R_told (Kd.R_told (Kd.R_old (xH p4'.out) hb) (Kd.R_base ho0)) (Kd.R_base ho1)) (fun _ h_ => h_.1))
             replace p5' := aM (xM (Kd.R_told (Kd.R_told (Kd.R_old (xH p5'.out) hb) (Kd.R_base ho0)) (Kd.R_base ho1)) (fun _ h_ => h_.1))
             replace HO398 := aM (xM (Kd.R_told (Kd.R_told (Kd.R_old (xH HO398.out) hb) (Kd.R_base ho0)) (Kd.R_base ho1)) (fun _ h_ => h_.1))
             replace HO401 := aM (xM (Kd.R_told (Kd.R_told (Kd.R_old (xH HO401.out) hb) (Kd.R_base ho0)) (Kd.R_base ho1)) (fun _ h_ => h_.1))
             replace BK338 := yK BK338.out hb
             replace BK339 := yK BK339.out hb
             replace BK358 := yK BK358.out hb
             replace BK366 := yK BK366.out hb
             replace BK377 := yK BK377.out hb
             replace BK412 := yK BK412.out hb
             replace HB := aM (zT (zH HB.out) hb)
             (try clear hb); (try clear ho0); (try clear ho1)
             refine hK.out _ _ ⟨yc BK338.out 0, yc BK338.out 1, yc BK338.out 2, yc BK339.out 0, yc BK339.out 1⟩ (fun hHeld => ?_)
             clear hK K
             refine norm_ (a' := ?_) ?_ ?_
             rotate_left
             ·show Act.put _ (some 84) _ = _
              simp only [Act.put, qA, qB, qC, i64_w, i32_w]
              rfl
             refine pure_ (i := 5) (N := some 79) (v := ?_) (a' := ?_) #[tT,tT,tT,tT,tT,tT,fF,fF,tT,fF,fF] rfl rfl (any_of HT_.out (by kernel_rfl)) (fun _ _ _ h => h) (Or.inl ⟨by rfl, ?_⟩) ?_ ?_
             rotate_left
             ·intro w'
              go_simp
              with_reducible rfl
             rotate_left
             ·simp only [Act.put, qA, qB, qC, i64_w, i32_w]
              rfl
             refine pure_ (i := 6) (N := some 85) (v := ?_) (a' := ?_) #[tT,tT,tT,tT,tT,tT,tT,fF,tT,fF,fF] rfl rfl (any_of HT_.out (by kernel_rfl)) (fun _ _ _ h => h) (Or.inl ⟨by rfl, ?_⟩) ?_ ?_
             rotate_left
             ·intro w'
              go_simp
              with_reducible rfl
             rotate_left
             ·simp only [Act.put, qA, qB, qC, i64_w, i32_w]
              rfl
             refine pure_ (i := 7) (N := some 86) (v := ?_) (a' := ?_) #[tT,tT,tT,tT,tT,tT,tT,tT,tT,fF,fF] rfl rfl (any_of HT_.out (by kernel_rfl)) (fun _ _ _ h => h) (Or.inl ⟨by rfl, ?_⟩) ?_ ?_
             rotate_left
             ·intro w'
              go_simp
              with_reducible rfl
             rotate_left
             ·simp only [Act.put, qA, qB, qC, i64_w, i32_w]
              rfl
             exact norm_ (by simp only [putAll, Act.put, qA, qB, qC]) (hCont (.slice Ao147 t396.length co147, .slice Ao148 t399.length co148, v406, v409, gb412) _ ⟨hHeld, (xH (xM HO398.out (fun _ hk => ⟨hk.1.1.1.1.1.1.1.1, ⟨hk.1.2, ⟨hk.2, ⟨hk.1.1.1.1.1.1.1.2, ⟨hk.1.1.1.1.1.1.2, ⟨hk.1.1.1.1.1.2, ⟨hk.1.1.1.1.2, ⟨hk.1.1.1.2, hk.1.1.2⟩⟩⟩⟩⟩⟩⟩⟩))), (xH (xM HO401.out (fun _ hk => ⟨hk.1.1.1.1.1.1.1.1, ⟨hk.1.2, ⟨hk.2, ⟨hk.1.1.1.1.1.1.1.2, ⟨hk.1.1.1.1.1.1.2, ⟨hk.1.1.1.1.1.2, ⟨hk.1.1.1.1.2, ⟨hk.1.1.1.2, hk.1.1.2⟩⟩⟩⟩⟩⟩⟩⟩))), (xH (xM HO407.out (fun _ hk => ⟨hk.1.2, ⟨hk.2, ⟨hk.1.1.1.1.1.1.1.1, ⟨hk.1.1.1.1.1.1.1.2, ⟨hk.1.1.1.1.1.1.2, ⟨hk.1.1.1.1.1.2, ⟨hk.1.1.1.1.2, ⟨hk.1.1.1.2, hk.1.1.2⟩⟩⟩⟩⟩⟩⟩⟩))), (xH (xM HO410.out (fun _ hk => ⟨hk.1.2, ⟨hk.2, ⟨hk.1.1.1.1.1.1.1.1, ⟨hk.1.1.1.1.1.1.1.2, ⟨hk.1.1.1.1.1.1.2, ⟨hk.1.1.1.1.1.2, ⟨hk.1.1.1.1.2, ⟨hk.1.1.1.2, hk.1.1.2⟩⟩⟩⟩⟩⟩⟩⟩))), (xH (xM p0'.out (fun _ hk => ⟨hk.1.1.1.2, ⟨hk.1.1.2, ⟨hk.1.2, ⟨hk.2, ⟨hk.1.1.1.1.1, ⟨hk.1.1.1.1.2.1, ⟨hk.1.1.1.1.2.2.1, ⟨hk.1.1.1.1.2.2.2.1, hk.1.1.1.1.2.2.2.2⟩⟩⟩⟩⟩⟩⟩⟩))), (xH (xM p1'.out (fun _ hk => ⟨hk.1.1.1.2, ⟨hk.1.1.2, ⟨hk.1.2, ⟨hk.2, ⟨hk.1.1.1.1.1, ⟨hk.1.1.1.1.2.1, ⟨hk.1.1.1.1.2.2.1, ⟨hk.1.1.1.1.2.2.2.1, hk.1.1.1.1.2.2.2.2⟩⟩⟩⟩⟩⟩⟩⟩))), (xH (xM p2'.out (fun _ hk => ⟨hk.1.1.1.2, ⟨hk.1.1.2, ⟨hk.1.2, ⟨hk.2, ⟨hk.1.1.1.1.1, ⟨hk.1.1.1.1.2.1, ⟨hk.1.1.1.1.2.2.1, ⟨hk.1.1.1.1.2.2.2.1, hk.1.1.1.1.2.2.2.2⟩⟩⟩⟩⟩⟩⟩⟩))), (xH (xM p3'.out (fun _ hk => ⟨hk.1.1.1.2, ⟨hk.1.1.2, ⟨hk.1.2, ⟨hk.2, ⟨hk.1.1.1.1.1, ⟨hk.1.1.1.1.2.1, ⟨hk.1.1.1.1.2.2.1, ⟨hk.1.1.1.1.2.2.2.1, hk.1.1.1.1.2.2.2.2⟩⟩⟩⟩⟩⟩⟩⟩))), (xH (xM p4'.out (fun _ hk => ⟨hk.1.1.1.2, ⟨hk.1.1.2, ⟨hk.1.2, ⟨hk.2, ⟨hk.1.1.1.1.1, ⟨hk.1.1.1.1.2.1, ⟨hk.1.1.1.1.2.2.1, ⟨hk.1.1.1.1.2.2.2.1, hk.1.1.1.1.2.2.2.2⟩⟩⟩⟩⟩⟩⟩⟩))), (xH (xM p5'.out (fun _ hk => ⟨hk.1.1.1.2, ⟨hk.1.1.2, ⟨hk.1.2, ⟨hk.2, ⟨hk.1.1.1.1.1, ⟨hk.1.1.1.1.2.1, ⟨hk.1.1.1.1.2.2.1, ⟨hk.1.1.1.1.2.2.2.1, hk.1.1.1.1.2.2.2.2⟩⟩⟩⟩⟩⟩⟩⟩))), (yH BK338.out), (yH BK339.out), (yH BK358.out), (yH BK366.out), (yH BK377.out), (yH BK412.out), GW412.out, GE412.out, NB338_412.out, NB412_338.out, NB339_412.out, NB412_339.out, NB358_412.out, NB412_358.out, NB366_412.out, NB412_366.out, NB377_412.out, NB412_377.out, (zH HB.out)⟩)
           rintro ⟨v397, v400, v406, v409, gb412⟩ w150 ⟨hS_, h0_, h1_, h2_, h3_, h4_, h5_, h6_, h7_, h8_, h9_, h10_, h11_, h12_, h13_, h14_, h15_, h16_, h17_, h18_, h19_, h20_, h21_, h22_, h23_, h24_, h25_, h26_, h27_, h28_⟩
           (try dsimp only at h0_ h1_ h2_ h3_ h4_ h5_ h6_ h7_ h8_ h9_ h10_ h11_ h12_ h13_ h14_ h15_ h16_ h17_ h18_ h19_ h20_ h21_ h22_ h23_ h24_ h25_ h26_ h27_ h28_)
           have n0_ := aM h0_
           have n1_ := aM h1_
           have n2_ := aM h2_
           have n3_ := aM h3_
           have n4_ := aM h4_
           have n5_ := aM h5_
           have n6_ := aM h6_
           have n7_ := aM h7_
           have n8_ := aM h8_
           have n9_ := aM h9_
           have n10_ := aM h10_
           have n11_ := aM h11_
           have n12_ := aM h12_
           have n13_ := aM h13_
           have n14_ := aM h14_
           have n15_ := aM h15_
           have n16_ := aM h16_
           have n17_ := aM h17_
           have n18_ := aM h18_
           have n19_ := aM h19_
           have n20_ := aM h20_
           have n21_ := aM h21_
           have n22_ := aM h22_
           have n23_ := aM h23_
           have n24_ := aM h24_
           have n25_ := aM h25_
           have n26_ := aM h26_
           have n27_ := aM h27_
           have n28_ := aM h28_
           clear p0'
           clear p1'
           clear p2'
           clear p3'
           clear p4'
           clear p5'
           clear BK338 BK339 BK358 BK366 BK377 HB h0_ h1_ h2_ h3_ h4_ h5_ h6_ h7_ h8_ h9_ h10_ h11_ h12_ h13_ h14_ h15_ h16_ h17_ h18_ h19_ h20_ h21_ h22_ h23_ h24_ h25_ h26_ h27_ h28_
           have HO398 := n0_
           have HO401 := n1_
           have HO407 := n2_
           have HO410 := n3_
           have p0' := n4_
           have p1' := n5_
           have p2' := n6_
           have p3' := n7_
           have p4' := n8_
           have p5' := n9_
           have BK338 := n10_
           have BK339 := n11_
           have BK358 := n12_
           have BK366 := n13_
           have BK377 := n14_
           have BK412 := n15_
           have GW412 := n16_
           have GE412 := n17_
           have NB338_412 := n18_
           have NB412_338 := n19_
           have NB339_412 := n20_
           have NB412_339 := n21_
           have NB358_412 := n22_
           have NB412_358 := n23_
           have NB366_412 := n24_
           have NB412_366 := n25_
           have NB377_412 := n26_
           have NB412_377 := n27_
           have HB := n28_
           clear n0_ n1_ n2_ n3_ n4_ n5_ n6_ n7_ n8_ n9_ n10_ n11_ n12_ n13_ n14_ n15_ n16_ n17_ n18_ n19_ n20_ n21_ n22_ n23_ n24_ n25_ n26_ n27_ n28_
           have hHeld : w150.cell? ⟨gb338, 0, none⟩ = some (.int .i64 a0_0) ∧ w150.cell? ⟨gb338, 1, none⟩ = some (.slice A0_1 l0_1.length c0_1) ∧ w150.cell? ⟨gb338, 2, none⟩ = some (.slice A0_2 l0_2.length c0_2) ∧ w150.cell? ⟨gb339, 0, none⟩ = some (.int .i64 a1_0) ∧ w150.cell? ⟨gb339, 1, none⟩ = some (.int .i64 a1_1) := hS_
           obtain ⟨Ao152, co152, eo152⟩ := Kd.R_slice HO407.out
           (first | subst eo152 | obtain ⟨rfl, rfl⟩ := eI eo152)
           obtain ⟨Ao154, co154, eo154⟩ := Kd.R_slice HO410.out
           (first | subst eo154 | obtain ⟨rfl, rfl⟩ := eI eo154)
           refine norm_ (a' := ?_) ?_ ?_
           rotate_left
           ·simp only [putAll, Act.put, qA, qB, qC]
            rfl
           refine one_ (i := 9) (N := none) #[tT,tT,tT,tT,tT,tT,tT,tT,tT,tT,fF] rfl rfl (one_of HT_.out (by kernel_rfl)) (by decide) (fun K hK => ?_)
           have hs151 : w150.cell? ⟨gb412, 0, none⟩ = some (.int .i64 0) := yc BK412.out 0
           have hfs151 := yZ BK412.out 0
           have hns151_0 := NB338_412.out
           have hns151_1 := NB339_412.out
           have hns151_2 := NB358_412.out
           have hns151_3 := NB366_412.out
           have hns151_4 := NB377_412.out
           have hms151_0 := NB412_338.out
           have hms151_1 := NB412_339.out
           have hms151_2 := NB412_358.out
           have hms151_3 := NB412_366.out
           have hms151_4 := NB412_377.out
           have hs153 : w150.cell? ⟨gb412, 1, none⟩ = some (.slice none 0 0) := yc BK412.out 1
           have hfs153 := yZ BK412.out 1
           have hns153_0 := NB338_412.out
           have hns153_1 := NB339_412.out
           have hns153_2 := NB358_412.out
           have hns153_3 := NB366_412.out
           have hns153_4 := NB377_412.out
           have hms153_0 := NB412_338.out
           have hms153_1 := NB412_339.out
           have hms153_2 := NB412_358.out
           have hms153_3 := NB412_366.out
           have hms153_4 := NB412_377.out
           have hs155 : w150.cell? ⟨gb412, 2, none⟩ = some (.slice none 0 0) := yc BK412.out 2
           have hfs155 := yZ BK412.out 2
           have hns155_0 := NB338_412.out
           have hns155_1 := NB339_412.out
           have hns155_2 := NB358_412.out
           have hns155_3 := NB366_412.out
           have hns155_4 := NB377_412.out
           have hms155_0 := NB412_338.out
           have hms155_1 := NB412_339.out
           have hms155_2 := NB412_358.out
           have hms155_3 := NB412_366.out
           have hms155_4 := NB412_377.out
           refine skip_ (w1 := ?_) (by rfl) rfl ?_ ?_
           rotate_left
           ·go_simp
            rfl
           refine hK.out _ _ ⟨((cell_far (p := ⟨gb412, _, none⟩) NB338_412.out _).trans (((cell_far (p := ⟨gb412, _, none⟩) NB338_412.out _).trans (((cell_far (p := ⟨gb412, _, none⟩) NB338_412.out _).trans (hHeld.1)))))), ((cell_far (p := ⟨gb412, _, none⟩) NB338_412.out _).trans (((cell_far (p := ⟨gb412, _, none⟩) NB338_412.out _).trans (((cell_far (p := ⟨gb412, _, none⟩) NB338_412.out _).trans (hHeld.2.1)))))), ((cell_far (p := ⟨gb412, _, none⟩) NB338_412.out _).trans (((cell_far (p := ⟨gb412, _, none⟩) NB338_412.out _).trans (((cell_far (p := ⟨gb412, _, none⟩) NB338_412.out _).trans (hHeld.2.2.1)))))), ((cell_far (p := ⟨gb412, _, none⟩) NB339_412.out _).trans (((cell_far (p := ⟨gb412, _, none⟩) NB339_412.out _).trans (((cell_far (p := ⟨gb412, _, none⟩) NB339_412.out _).trans (hHeld.2.2.2.1)))))), ((cell_far (p := ⟨gb412, _, none⟩) NB339_412.out _).trans (((cell_far (p := ⟨gb412, _, none⟩) NB339_412.out _).trans (((cell_far (p := ⟨gb412, _, none⟩) NB339_412.out _).trans (hHeld.2.2.2.2))))))⟩ (fun hHeld => ?_)
           clear hK K
           refine pure_ (i := 10) (N := some 15) (v := ?_) (a' := ?_) #[tT,tT,tT,tT,tT,tT,tT,tT,tT,tT,tT] rfl rfl (any_of HT_.out (by kernel_rfl)) (fun _ _ _ h => h) (Or.inl ⟨by rfl, ?_⟩) ?_ ?_
           rotate_left
           ·intro w'
            go_simp
            with_reducible rfl
           rotate_left
           ·simp only [Act.put, qA, qB, qC, i64_w, i32_w]
            rfl
           refine done_ (done_of HT_.out (by kernel_rfl)) ?_
           go_upto_region 25 with (fail)
           go_cut [95] (fun v95 wc => ∃ (kq : Nat) (x95_133 : Bool), v95 = .bool x95_133 ∧ Aside0 (laws_FnExactTakeExact.j2 kq t391 x95_133 t369 t392 t393 = some r) ∧ Aside0 (kq ≤ kj82) ∧ Aside0 (Kd.R k49 49 wc w.heap.size (fun k_ => some k_ ≠ oB Ao33 t354.length co33 ∧ some k_ ≠ oB Ao43 t388.length co43 ∧ some k_ ≠ oB Ao44 t389.length co44 ∧ some k_ ≠ oB Ao52 t370.length co52 ∧ some k_ ≠ oB Ao54 t373.length co54 ∧ some k_ ≠ oB Ao152 t405.length co152 ∧ some k_ ≠ oB Ao154 t408.length co154) (.slice Ao31 t351.length co31) t351) ∧ Aside0 (Kd.R k49 49 wc w.heap.size (fun k_ => some k_ ≠ oB Ao31 t351.length co31 ∧ some k_ ≠ oB Ao43 t388.length co43 ∧ some k_ ≠ oB Ao44 t389.length co44 ∧ some k_ ≠ oB Ao52 t370.length co52 ∧ some k_ ≠ oB Ao54 t373.length co54 ∧ some k_ ≠ oB Ao152 t405.length co152 ∧ some k_ ≠ oB Ao154 t408.length co154) (.slice Ao33 t354.length co33) t354) ∧ Aside0 (Kd.R k49 49 wc w.heap.size (fun k_ => some k_ ≠ oB Ao31 t351.length co31 ∧ some k_ ≠ oB Ao33 t354.length co33 ∧ some k_ ≠ oB Ao44 t389.length co44 ∧ some k_ ≠ oB Ao52 t370.length co52 ∧ some k_ ≠ oB Ao54 t373.length co54 ∧ some k_ ≠ oB Ao152 t405.length co152 ∧ some k_ ≠ oB Ao154 t408.length co154) (.slice Ao43 t388.length co43) t388) ∧ Aside0 (Kd.R k49 49 wc w.heap.size (fun k_ => some k_ ≠ oB Ao31 t351.length co31 ∧ some k_ ≠ oB Ao33 t354.length co33 ∧ some k_ ≠ oB Ao43 t388.length co43 ∧ some k_ ≠ oB Ao52 t370.length co52 ∧ some k_ ≠ oB Ao54 t373.length co54 ∧ some k_ ≠ oB Ao152 t405.length co152 ∧ some k_ ≠ oB Ao154 t408.length co154) (.slice Ao44 t389.length co44) t389) ∧ Aside0 (Kd.R k49 49 wc w.heap.size (fun k_ => some k_ ≠ oB Ao31 t351.length co31 ∧ some k_ ≠ oB Ao33 t354.length co33 ∧ some k_ ≠ oB Ao43 t388.length co43 ∧ some k_ ≠ oB Ao44 t389.length co44 ∧ some k_ ≠ oB Ao54 t373.length co54 ∧ some k_ ≠ oB Ao152 t405.length co152 ∧ some k_ ≠ oB Ao154 t408.length co154) (.slice Ao52 t370.length co52) t392) ∧ Aside0 (Kd.R k49 49 wc w.heap.size (fun k_ => some k_ ≠ oB Ao31 t351.length co31 ∧ some k_ ≠ oB Ao33 t354.length co33 ∧ some k_ ≠ oB Ao43 t388.length co43 ∧ some k_ ≠ oB Ao44 t389.length co44 ∧ some k_ ≠ oB Ao52 t370.length co52 ∧ some k_ ≠ oB Ao152 t405.length co152 ∧ some k_ ≠ oB Ao154 t408.length co154) (.slice Ao54 t373.length co54) t393) ∧ Aside0 (Kd.R k49 49 wc w.heap.size (fun k_ => some k_ ≠ oB Ao31 t351.length co31 ∧ some k_ ≠ oB Ao33 t354.length co33 ∧ some k_ ≠ oB Ao43 t388.length co43 ∧ some k_ ≠ oB Ao44 t389.length co44 ∧ some k_ ≠ oB Ao52 t370.length co52 ∧ some k_ ≠ oB Ao54 t373.length co54 ∧ some k_ ≠ oB Ao154 t408.length co154) (.slice Ao152 t405.length co152) t405) ∧ Aside0 (Kd.R k49 49 wc w.heap.size (fun k_ => some k_ ≠ oB Ao31 t351.length co31 ∧ some k_ ≠ oB Ao33 t354.length co33 ∧ some k_ ≠ oB Ao43 t388.length co43 ∧ some k_ ≠ oB Ao44 t389.length co44 ∧ some k_ ≠ oB Ao52 t370.length co52 ∧ some k_ ≠ oB Ao54 t373.length co54 ∧ some k_ ≠ oB Ao152 t405.length co152) (.slice Ao154 t408.length co154) t408) ∧ Aside0 (wc.heap[gb338]? = some (.cells #[.int .i64 a0_0, (.slice A0_1 l0_1.length c0_1), (.slice A0_2 l0_2.length c0_2)] 32 (0, 0))) ∧ Aside0 (wc.heap[gb339]? = some (.cells #[.int .i64 a1_0, .int .i64 a1_1] 47 (0, 0))) ∧ Aside0 (wc.heap[gb358]? = some (.cells #[.int .i64 t350, (.slice Ao31 t351.length co31), (.slice Ao33 t354.length co33)] 24 (0, 0))) ∧ Aside0 (wc.heap[gb366]? = some (.cells #[.int .i64 t359, (.slice Ao43 t388.length co43), (.slice Ao44 t389.length co44)] 24 (0, 0))) ∧ Aside0 (wc.heap[gb377]? = some (.cells #[.int .i64 t369, (.slice Ao52 t370.length co52), (.slice Ao54 t373.length co54)] 24 (0, 0))) ∧ Aside0 (wc.heap[gb412]? = some (.cells #[.int .i64 t404, (.slice Ao152 t405.length co152), (.slice Ao154 t408.length co154)] 24 (0, 0))) ∧ Aside0 (Below w.heap.size w wc))
           case first =>
            have H := HC134.out
            clear HC134
            replace H := Option.bind_eq_some_iff.mp H
            obtain ⟨t413, A1560, H⟩ := H
            replace H : (if t413 = true then (laws_FnExactTakeExact.j2 kj82 t391 (t411 != t357) t369 t392 t393) else (laws_FnExactTakeExact.j2 kj82 t391 true t369 t392 t393)) = some r := H
            have A156 := aM A1560
            clear A1560
            by_cases c157 : t413 = true
            ·subst c157
             have H1 : (laws_FnExactTakeExact.j2 kj82 t391 (t411 != t357) t369 t392 t393) = some r := by rw [if_pos rfl] at H; exact H
             clear H
             have H := H1
             clear H1
             have H' := aM H
             clear H
             have hnb158 := NB412_338.out
             have hnc158 := NB338_412.out
             have hnb159 := NB412_339.out
             have hnc159 := NB339_412.out
             have hnb160 := NB412_358.out
             have hnc160 := NB358_412.out
             have hnb161 := NB412_366.out
             have hnc161 := NB366_412.out
             have hnb162 := NB412_377.out
             have hnc162 := NB377_412.out
             have hcz163_0 : w150.cell? ⟨gb412, 0, none⟩ = some (.int .i64 0) := yc BK412.out 0
             have hcz163_1 : w150.cell? ⟨gb412, 1, none⟩ = some (.slice none 0 0) := yc BK412.out 1
             have hcz163_2 : w150.cell? ⟨gb412, 2, none⟩ = some (.slice none 0 0) := yc BK412.out 2
             have hfz163_0 := yZ BK412.out 0
             have hfz163_1 := yZ BK412.out 1
             have hfz163_2 := yZ BK412.out 2
             have hnb164 := NB358_338.out
             have hnc164 := NB338_358.out
             have hnb165 := NB358_339.out
             have hnc165 := NB339_358.out
             have hnb166 := NB358_366.out
             have hnc166 := NB366_358.out
             have hnb167 := NB358_377.out
             have hnc167 := NB377_358.out
             have hcz168_0 : w150.cell? ⟨gb358, 0, none⟩ = some (.int .i64 t350) := yc BK358.out 0
             have hcz168_1 : w150.cell? ⟨gb358, 1, none⟩ = some (.slice Ao31 t351.length co31) := yc BK358.out 1
             have hcz168_2 : w150.cell? ⟨gb358, 2, none⟩ = some (.slice Ao33 t354.length co33) := yc BK358.out 2
             have hfz168_0 := yZ BK358.out 0
             have hfz168_1 := yZ BK358.out 1
             have hfz168_2 := yZ BK358.out 2
             go_wp2_with (first | ((with_reducible refine gate_callee (f := 13) rfl ?_); refine goesL_ (some 89) rfl rfl Try.func13 (by kernel_rfl) rfl #[.agg #[.int .i64 t404, .slice Ao152 t405.length co152, .slice Ao154 t408.length co154], .agg #[.int .i64 t350, .slice Ao31 t351.length co31, .slice Ao33 t354.length co33]] rfl (by (try simp only [List.map_toArray, List.map_cons, List.map_nil]); first | done | rfl | (simp only [List.length_drop, List.length_take]; rfl)) ?_; (with_reducible refine (laws_eqFree.calls kj82 t404 _ _ t405 _ _ t408 t350 _ _ t351 _ _ t354 true _ ?side1 ?side2 ?side3 ?side4 ?side5 ?side6 ?side7 ?side8 A156.out).mono ?_); (case side1 => exact rC (n := t405.length) (c := co152) ((x3 HO407.out BK412.out (by decide) (.int .i64 t404) (.slice Ao152 t405.length co152) (.slice Ao154 t408.length co154)))); (case side2 => exact (Kd.R_reads' HO407.out).2.1); (case side3 => exact rC (n := t408.length) (c := co154) ((x3 HO410.out BK412.out (by decide) (.int .i64 t404) (.slice Ao152 t405.length co152) (.slice Ao154 t408.length co154)))); (case side4 => exact (Kd.R_reads' HO410.out).2.1); (case side5 => exact rC (n := t351.length) (c := co31) ((x3 p0'.out BK412.out (by decide) (.int .i64 t404) (.slice Ao152 t405.length co152) (.slice Ao154 t408.length co154)))); (case side6 => exact (Kd.R_reads' p0'.out).2.1); (case side7 => exact rC (n := t354.length) (c := co33) ((x3 p1'.out BK412.out (by decide) (.int .i64 t404) (.slice Ao152 t405.length co152) (.slice Ao154 t408.length co154)))); (case side8 => exact (Kd.R_reads' p1'.out).2.1); rintro e w169 ⟨rfl, hb⟩; refine ⟨_, rfl, ?_⟩; replace p0' := aM (xB (xH ((x3 p0'.out BK412.out (by decide) (.int .i64 t404) (.slice Ao152 t405.length co152) (.slice Ao154 t408.length co154)))) hb); replace p1' := aM (xB (xH ((x3 p1'.out BK412.out (by decide) (.int .i64 t404) (.slice Ao152 t405.length co152) (.slice Ao154 t408.length co154)))) hb); replace p2' := aM (xB (xH ((x3 p2'.out BK412.out (by decide) (.int .i64 t404) (.slice Ao152 t405.length co152) (.slice Ao154 t408.length co154)))) hb); replace p3' := aM (xB (xH ((x3 p3'.out BK412.out (by decide) (.int .i64 t404) (.slice Ao152 t405.length co152) (.slice Ao154 t408.length co154)))) hb); replace p4' := aM (xB (xH ((x3 p4'.out BK412.out (by decide) (.int .i64 t404) (.slice Ao152 t405.length co152) (.slice Ao154 t408.length co154)))) hb); replace p5' := aM (xB (xH ((x3 p5'.out BK412.out (by decide) (.int .i64 t404) (.slice Ao152 t405.length co152) (.slice Ao154 t408.length co154)))) hb); replace HO398 := aM (xB (xH ((x3 HO398.out BK412.out (by decide) (.int .i64 t404) (.slice Ao152 t405.length co152) (.slice Ao154 t408.length co154)))) hb); replace HO401 := aM (xB (xH ((x3 HO401.out BK412.out (by decide) (.int .i64 t404) (.slice Ao152 t405.length co152) (.slice Ao154 t408.length co154)))) hb); replace HO407 := aM (xB (xH ((x3 HO407.out BK412.out (by decide) (.int .i64 t404) (.slice Ao152 t405.length co152) (.slice Ao154 t408.length co154)))) hb); replace HO410 := aM (xB (xH ((x3 HO410.out BK412.out (by decide) (.int .i64 t404) (.slice Ao152 t405.length co152) (.slice Ao154 t408.length co154)))) hb); replace BK338 := aM (yB (g := gb338) (o := .cells #[.int .i64 a0_0, .slice A0_1 l0_1.length c0_1, .slice A0_2 l0_2.length c0_2] 32 (0, 0)) (by (with_reducible repeat (first | refine yN ?_ _ | refine yD ?_ | refine yA ?_ _)); refine yF ?_ NB338_412.out _; (with_reducible repeat (first | refine yN ?_ _ | refine yD ?_ | refine yA ?_ _)); refine yF ?_ NB338_412.out _; (with_reducible repeat (first | refine yN ?_ _ | refine yD ?_ | refine yA ?_ _)); refine yF ?_ NB338_412.out _; (with_reducible repeat (first | refine yN ?_ _ | refine yD ?_ | refine yA ?_ _)); exact BK338.out) hb); replace BK339 := aM (yB (g := gb339) (o := .cells #[.int .i64 a1_0, .int .i64 a1_1] 47 (0, 0)) (by (with_reducible repeat (first | refine yN ?_ _ | refine yD ?_ | refine yA ?_ _)); refine yF ?_ NB339_412.out _; (with_reducible repeat (first | refine yN ?_ _ | refine yD ?_ | refine yA ?_ _)); refine yF ?_ NB339_412.out _; (with_reducible repeat (first | refine yN ?_ _ | refine yD ?_ | refine yA ?_ _)); refine yF ?_ NB339_412.out _; (with_reducible repeat (first | refine yN ?_ _ | refine yD ?_ | refine yA ?_ _)); exact BK339.out) hb); replace BK358 := aM (yB (g := gb358) (o := .cells #[.int .i64 t350, .slice Ao31 t351.length co31, .slice Ao33 t354.length co33] 24 (0, 0)) (by (with_reducible repeat (first | refine yN ?_ _ | refine yD ?_ | refine yA ?_ _)); refine yF ?_ NB358_412.out _; (with_reducible repeat (first | refine yN ?_ _ | refine yD ?_ | refine yA ?_ _)); refine yF ?_ NB358_412.out _; (with_reducible repeat (first | refine yN ?_ _ | refine yD ?_ | refine yA ?_ _)); refine yF ?_ NB358_412.out _; (with_reducible repeat (first | refine yN ?_ _ | refine yD ?_ | refine yA ?_ _)); exact BK358.out) hb); replace BK366 := aM (yB (g := gb366) (o := .cells #[.int .i64 t359, .slice Ao43 t388.length co43, .slice Ao44 t389.length co44] 24 (0, 0)) (by (with_reducible repeat (first | refine yN ?_ _ | refine yD ?_ | refine yA ?_ _)); refine yF ?_ NB366_412.out _; (with_reducible repeat (first | refine yN ?_ _ | refine yD ?_ | refine yA ?_ _)); refine yF ?_ NB366_412.out _; (with_reducible repeat (first | refine yN ?_ _ | refine yD ?_ | refine yA ?_ _)); refine yF ?_ NB366_412.out _; (with_reducible repeat (first | refine yN ?_ _ | refine yD ?_ | refine yA ?_ _)); exact BK366.out) hb); replace BK377 := aM (yB (g := gb377) (o := .cells #[.int .i64 t369, .slice Ao52 t370.length co52, .slice Ao54 t373.length co54] 24 (0, 0)) (by (with_reducible repeat (first | refine yN ?_ _ | refine yD ?_ | refine yA ?_ _)); refine yF ?_ NB377_412.out _; (with_reducible repeat (first | refine yN ?_ _ | refine yD ?_ | refine yA ?_ _)); refine yF ?_ NB377_412.out _; (with_reducible repeat (first | refine yN ?_ _ | refine yD ?_ | refine yA ?_ _)); refine yF ?_ NB377_412.out _; (with_reducible repeat (first | refine yN ?_ _ | refine yD ?_ | refine yA ?_ _)); exact BK377.out) hb); replace BK412 := aM (yB (g := gb412) (o := .cells #[.int .i64 t404, .slice Ao152 t405.length co152, .slice Ao154 t408.length co154] 24 (0, 0)) (by (with_reducible repeat (first | refine yN ?_ _ | refine yD ?_ | refine yA ?_ _)); refine yP (cs := #[.int .i64 t404, .slice Ao152 t405.length co152, .slice none 0 0]) ?_ 2 _ rfl; (with_reducible repeat (first | refine yN ?_ _ | refine yD ?_ | refine yA ?_ _)); refine yP (cs := #[.int .i64 t404, .slice none 0 0, .slice none 0 0]) ?_ 1 _ rfl; (with_reducible repeat (first | refine yN ?_ _ | refine yD ?_ | refine yA ?_ _)); refine yP (cs := #[.int .i64 0, .slice none 0 0, .slice none 0 0]) ?_ 0 _ rfl; (with_reducible repeat (first | refine yN ?_ _ | refine yD ?_ | refine yA ?_ _)); exact BK412.out) hb); replace HB := aM (zT (zH HB.out) hb); (try clear hb)))
             go_meet
             case rel => exact ⟨_, ((t411 != t357)), (by first | rfl | (simp; done) | (simp [*]; done)), H', ⟨by have := HJ15.out; have := HJ82.out; first | omega | exact Nat.le_refl _⟩, ⟨by (try simp only [hl367001_82]); (try simp only [hl367002_82]); (with_reducible repeat (first | apply xA | apply xN | apply xD)); exact xM p0'.out (fun _ hk => ⟨hk.2.2.2.2.1, ⟨hk.2.2.2.2.2.1, ⟨hk.2.2.2.2.2.2.1, ⟨hk.2.2.2.2.2.2.2.1, ⟨hk.2.2.2.2.2.2.2.2, ⟨hk.2.2.1, hk.2.2.2.1⟩⟩⟩⟩⟩⟩)⟩, ⟨by (try simp only [hl367001_82]); (try simp only [hl367002_82]); (with_reducible repeat (first | apply xA | apply xN | apply xD)); exact xM p1'.out (fun _ hk => ⟨hk.2.2.2.2.1, ⟨hk.2.2.2.2.2.1, ⟨hk.2.2.2.2.2.2.1, ⟨hk.2.2.2.2.2.2.2.1, ⟨hk.2.2.2.2.2.2.2.2, ⟨hk.2.2.1, hk.2.2.2.1⟩⟩⟩⟩⟩⟩)⟩, ⟨by (try simp only [hl367001_82]); (try simp only [hl367002_82]); (with_reducible repeat (first | apply xA | apply xN | apply xD)); exact xM p2'.out (fun _ hk => ⟨hk.2.2.2.2.1, ⟨hk.2.2.2.2.2.1, ⟨hk.2.2.2.2.2.2.1, ⟨hk.2.2.2.2.2.2.2.1, ⟨hk.2.2.2.2.2.2.2.2, ⟨hk.2.2.1, hk.2.2.2.1⟩⟩⟩⟩⟩⟩)⟩, ⟨by (try simp only [hl367001_82]); (try simp only [hl367002_82]); (with_reducible repeat (first | apply xA | apply xN | apply xD)); exact xM p3'.out (fun _ hk => ⟨hk.2.2.2.2.1, ⟨hk.2.2.2.2.2.1, ⟨hk.2.2.2.2.2.2.1, ⟨hk.2.2.2.2.2.2.2.1, ⟨hk.2.2.2.2.2.2.2.2, ⟨hk.2.2.1, hk.2.2.2.1⟩⟩⟩⟩⟩⟩)⟩, ⟨by (try simp only [hl367001_82]); (try simp only [hl367002_82]); (with_reducible repeat (first | apply xA | apply xN | apply xD)); exact xM p4'.out (fun _ hk => ⟨hk.2.2.2.2.1, ⟨hk.2.2.2.2.2.1, ⟨hk.2.2.2.2.2.2.1, ⟨hk.2.2.2.2.2.2.2.1, ⟨hk.2.2.2.2.2.2.2.2, ⟨hk.2.2.1, hk.2.2.2.1⟩⟩⟩⟩⟩⟩)⟩, ⟨by (try simp only [hl367001_82]); (try simp only [hl367002_82]); (with_reducible repeat (first | apply xA | apply xN | apply xD)); exact xM p5'.out (fun _ hk => ⟨hk.2.2.2.2.1, ⟨hk.2.2.2.2.2.1, ⟨hk.2.2.2.2.2.2.1, ⟨hk.2.2.2.2.2.2.2.1, ⟨hk.2.2.2.2.2.2.2.2, ⟨hk.2.2.1, hk.2.2.2.1⟩⟩⟩⟩⟩⟩)⟩, ⟨by (try simp only [hl367001_82]); (try simp only [hl367002_82]); (with_reducible repeat (first | apply xA | apply xN | apply xD)); exact xM HO407.out (fun _ hk => ⟨hk.2.2.2.1, ⟨hk.2.2.2.2.1, ⟨hk.2.2.2.2.2.1, ⟨hk.2.2.2.2.2.2.1, ⟨hk.2.2.2.2.2.2.2.1, ⟨hk.2.2.2.2.2.2.2.2, hk.2.2.1⟩⟩⟩⟩⟩⟩)⟩, ⟨by (try simp only [hl367001_82]); (try simp only [hl367002_82]); (with_reducible repeat (first | apply xA | apply xN | apply xD)); exact xM HO410.out (fun _ hk => ⟨hk.2.2.2.1, ⟨hk.2.2.2.2.1, ⟨hk.2.2.2.2.2.1, ⟨hk.2.2.2.2.2.2.1, ⟨hk.2.2.2.2.2.2.2.1, ⟨hk.2.2.2.2.2.2.2.2, hk.2.2.1⟩⟩⟩⟩⟩⟩)⟩, ⟨by (try simp only [hl367001_82]); (try simp only [hl367002_82]); (with_reducible repeat (first | refine yN ?_ _ | refine yD ?_ | refine yA ?_ _)); exact BK338.out⟩, ⟨by (try simp only [hl367001_82]); (try simp only [hl367002_82]); (with_reducible repeat (first | refine yN ?_ _ | refine yD ?_ | refine yA ?_ _)); exact BK339.out⟩, ⟨by (try simp only [hl367001_82]); (try simp only [hl367002_82]); (with_reducible repeat (first | refine yN ?_ _ | refine yD ?_ | refine yA ?_ _)); exact BK358.out⟩, ⟨by (try simp only [hl367001_82]); (try simp only [hl367002_82]); (with_reducible repeat (first | refine yN ?_ _ | refine yD ?_ | refine yA ?_ _)); exact BK366.out⟩, ⟨by (try simp only [hl367001_82]); (try simp only [hl367002_82]); (with_reducible repeat (first | refine yN ?_ _ | refine yD ?_ | refine yA ?_ _)); exact BK377.out⟩, ⟨by (try simp only [hl367001_82]); (try simp only [hl367002_82]); (with_reducible repeat (first | refine yN ?_ _ | refine yD ?_ | refine yA ?_ _)); exact BK412.out⟩, ⟨zH HB.out⟩⟩
            ·replace c157 := Bool.eq_false_iff.mpr c157
             subst c157
             have H1 : (laws_FnExactTakeExact.j2 kj82 t391 true t369 t392 t393) = some r := by rw [if_neg (show ¬ (false = true) by decide)] at H; exact H
             clear H
             have H := H1
             clear H1
             have H' := aM H
             clear H
             have hnb170 := NB412_338.out
             have hnc170 := NB338_412.out
             have hnb171 := NB412_339.out
             have hnc171 := NB339_412.out
             have hnb172 := NB412_358.out
             have hnc172 := NB358_412.out
             have hnb173 := NB412_366.out
             have hnc173 := NB366_412.out
             have hnb174 := NB412_377.out
             have hnc174 := NB377_412.out
             have hcz175_0 : w150.cell? ⟨gb412, 0, none⟩ = some (.int .i64 0) := yc BK412.out 0
             have hcz175_1 : w150.cell? ⟨gb412, 1, none⟩ = some (.slice none 0 0) := yc BK412.out 1
             have hcz175_2 : w150.cell? ⟨gb412, 2, none⟩ = some (.slice none 0 0) := yc BK412.out 2
             have hfz175_0 := yZ BK412.out 0
             have hfz175_1 := yZ BK412.out 1
             have hfz175_2 := yZ BK412.out 2
             have hnb176 := NB358_338.out
             have hnc176 := NB338_358.out
             have hnb177 := NB358_339.out
             have hnc177 := NB339_358.out
             have hnb178 := NB358_366.out
             have hnc178 := NB366_358.out
             have hnb179 := NB358_377.out
             have hnc179 := NB377_358.out
             have hcz180_0 : w150.cell? ⟨gb358, 0, none⟩ = some (.int .i64 t350) := yc BK358.out 0
             have hcz180_1 : w150.cell? ⟨gb358, 1, none⟩ = some (.slice Ao31 t351.length co31) := yc BK358.out 1
             have hcz180_2 : w150.cell? ⟨gb358, 2, none⟩ = some (.slice Ao33 t354.length co33) := yc BK358.out 2
             have hfz180_0 := yZ BK358.out 0
             have hfz180_1 := yZ BK358.out 1
             have hfz180_2 := yZ BK358.out 2
             go_wp2_with (first | ((with_reducible refine gate_callee (f := 13) rfl ?_); refine goesL_ (some 89) rfl rfl Try.func13 (by kernel_rfl) rfl #[.agg #[.int .i64 t404, .slice Ao152 t405.length co152, .slice Ao154 t408.length co154], .agg #[.int .i64 t350, .slice Ao31 t351.length co31, .slice Ao33 t354.length co33]] rfl (by (try simp only [List.map_toArray, List.map_cons, List.map_nil]); first | done | rfl | (simp only [List.length_drop, List.length_take]; rfl)) ?_; (with_reducible refine (laws_eqFree.calls kj82 t404 _ _ t405 _ _ t408 t350 _ _ t351 _ _ t354 false _ ?side1 ?side2 ?side3 ?side4 ?side5 ?side6 ?side7 ?side8 A156.out).mono ?_); (case side1 => exact rC (n := t405.length) (c := co152) ((x3 HO407.out BK412.out (by decide) (.int .i64 t404) (.slice Ao152 t405.length co152) (.slice Ao154 t408.length co154)))); (case side2 => exact (Kd.R_reads' HO407.out).2.1); (case side3 => exact rC (n := t408.length) (c := co154) ((x3 HO410.out BK412.out (by decide) (.int .i64 t404) (.slice Ao152 t405.length co152) (.slice Ao154 t408.length co154)))); (case side4 => exact (Kd.R_reads' HO410.out).2.1); (case side5 => exact rC (n := t351.length) (c := co31) ((x3 p0'.out BK412.out (by decide) (.int .i64 t404) (.slice Ao152 t405.length co152) (.slice Ao154 t408.length co154)))); (case side6 => exact (Kd.R_reads' p0'.out).2.1); (case side7 => exact rC (n := t354.length) (c := co33) ((x3 p1'.out BK412.out (by decide) (.int .i64 t404) (.slice Ao152 t405.length co152) (.slice Ao154 t408.length co154)))); (case side8 => exact (Kd.R_reads' p1'.out).2.1); rintro e w181 ⟨rfl, hb⟩; refine ⟨_, rfl, ?_⟩; replace p0' := aM (xB (xH ((x3 p0'.out BK412.out (by decide) (.int .i64 t404) (.slice Ao152 t405.length co152) (.slice Ao154 t408.length co154)))) hb); replace p1' := aM (xB (xH ((x3 p1'.out BK412.out (by decide) (.int .i64 t404) (.slice Ao152 t405.length co152) (.slice Ao154 t408.length co154)))) hb); replace p2' := aM (xB (xH ((x3 p2'.out BK412.out (by decide) (.int .i64 t404) (.slice Ao152 t405.length co152) (.slice Ao154 t408.length co154)))) hb); replace p3' := aM (xB (xH ((x3 p3'.out BK412.out (by decide) (.int .i64 t404) (.slice Ao152 t405.length co152) (.slice Ao154 t408.length co154)))) hb); replace p4' := aM (xB (xH ((x3 p4'.out BK412.out (by decide) (.int .i64 t404) (.slice Ao152 t405.length co152) (.slice Ao154 t408.length co154)))) hb); replace p5' := aM (xB (xH ((x3 p5'.out BK412.out (by decide) (.int .i64 t404) (.slice Ao152 t405.length co152) (.slice Ao154 t408.length co154)))) hb); replace HO398 := aM (xB (xH ((x3 HO398.out BK412.out (by decide) (.int .i64 t404) (.slice Ao152 t405.length co152) (.slice Ao154 t408.length co154)))) hb); replace HO401 := aM (xB (xH ((x3 HO401.out BK412.out (by decide) (.int .i64 t404) (.slice Ao152 t405.length co152) (.slice Ao154 t408.length co154)))) hb); replace HO407 := aM (xB (xH ((x3 HO407.out BK412.out (by decide) (.int .i64 t404) (.slice Ao152 t405.length co152) (.slice Ao154 t408.length co154)))) hb); replace HO410 := aM (xB (xH ((x3 HO410.out BK412.out (by decide) (.int .i64 t404) (.slice Ao152 t405.length co152) (.slice Ao154 t408.length co154)))) hb); replace BK338 := aM (yB (g := gb338) (o := .cells #[.int .i64 a0_0, .slice A0_1 l0_1.length c0_1, .slice A0_2 l0_2.length c0_2] 32 (0, 0)) (by (with_reducible repeat (first | refine yN ?_ _ | refine yD ?_ | refine yA ?_ _)); refine yF ?_ NB338_412.out _; (with_reducible repeat (first | refine yN ?_ _ | refine yD ?_ | refine yA ?_ _)); refine yF ?_ NB338_412.out _; (with_reducible repeat (first | refine yN ?_ _ | refine yD ?_ | refine yA ?_ _)); refine yF ?_ NB338_412.out _; (with_reducible repeat (first | refine yN ?_ _ | refine yD ?_ | refine yA ?_ _)); exact BK338.out) hb); replace BK339 := aM (yB (g := gb339) (o := .cells #[.int .i64 a1_0, .int .i64 a1_1] 47 (0, 0)) (by (with_reducible repeat (first | refine yN ?_ _ | refine yD ?_ | refine yA ?_ _)); refine yF ?_ NB339_412.out _; (with_reducible repeat (first | refine yN ?_ _ | refine yD ?_ | refine yA ?_ _)); refine yF ?_ NB339_412.out _; (with_reducible repeat (first | refine yN ?_ _ | refine yD ?_ | refine yA ?_ _)); refine yF ?_ NB339_412.out _; (with_reducible repeat (first | refine yN ?_ _ | refine yD ?_ | refine yA ?_ _)); exact BK339.out) hb); replace BK358 := aM (yB (g := gb358) (o := .cells #[.int .i64 t350, .slice Ao31 t351.length co31, .slice Ao33 t354.length co33] 24 (0, 0)) (by (with_reducible repeat (first | refine yN ?_ _ | refine yD ?_ | refine yA ?_ _)); refine yF ?_ NB358_412.out _; (with_reducible repeat (first | refine yN ?_ _ | refine yD ?_ | refine yA ?_ _)); refine yF ?_ NB358_412.out _; (with_reducible repeat (first | refine yN ?_ _ | refine yD ?_ | refine yA ?_ _)); refine yF ?_ NB358_412.out _; (with_reducible repeat (first | refine yN ?_ _ | refine yD ?_ | refine yA ?_ _)); exact BK358.out) hb); replace BK366 := aM (yB (g := gb366) (o := .cells #[.int .i64 t359, .slice Ao43 t388.length co43, .slice Ao44 t389.length co44] 24 (0, 0)) (by (with_reducible repeat (first | refine yN ?_ _ | refine yD ?_ | refine yA ?_ _)); refine yF ?_ NB366_412.out _; (with_reducible repeat (first | refine yN ?_ _ | refine yD ?_ | refine yA ?_ _)); refine yF ?_ NB366_412.out _; (with_reducible repeat (first | refine yN ?_ _ | refine yD ?_ | refine yA ?_ _)); refine yF ?_ NB366_412.out _; (with_reducible repeat (first | refine yN ?_ _ | refine yD ?_ | refine yA ?_ _)); exact BK366.out) hb); replace BK377 := aM (yB (g := gb377) (o := .cells #[.int .i64 t369, .slice Ao52 t370.length co52, .slice Ao54 t373.length co54] 24 (0, 0)) (by (with_reducible repeat (first | refine yN ?_ _ | refine yD ?_ | refine yA ?_ _)); refine yF ?_ NB377_412.out _; (with_reducible repeat (first | refine yN ?_ _ | refine yD ?_ | refine yA ?_ _)); refine yF ?_ NB377_412.out _; (with_reducible repeat (first | refine yN ?_ _ | refine yD ?_ | refine yA ?_ _)); refine yF ?_ NB377_412.out _; (with_reducible repeat (first | refine yN ?_ _ | refine yD ?_ | refine yA ?_ _)); exact BK377.out) hb); replace BK412 := aM (yB (g := gb412) (o := .cells #[.int .i64 t404, .slice Ao152 t405.length co152, .slice Ao154 t408.length co154] 24 (0, 0)) (by (with_reducible repeat (first | refine yN ?_ _ | refine yD ?_ | refine yA ?_ _)); refine yP (cs := #[.int .i64 t404, .slice Ao152 t405.length co152, .slice none 0 0]) ?_ 2 _ rfl; (with_reducible repeat (first | refine yN ?_ _ | refine yD ?_ | refine yA ?_ _)); refine yP (cs := #[.int .i64 t404, .slice none 0 0, .slice none 0 0]) ?_ 1 _ rfl; (with_reducible repeat (first | refine yN ?_ _ | refine yD ?_ | refine yA ?_ _)); refine yP (cs := #[.int .i64 0, .slice none 0 0, .slice none 0 0]) ?_ 0 _ rfl; (with_reducible repeat (first | refine yN ?_ _ | refine yD ?_ | refine yA ?_ _)); exact BK412.out) hb); replace HB := aM (zT (zH HB.out) hb); (try clear hb)))
             go_meet
             case rel => exact ⟨_, (true), (by first | rfl | (simp; done) | (simp [*]; done)), H', ⟨by have := HJ15.out; have := HJ82.out; first | omega | exact Nat.le_refl _⟩, ⟨by (try simp only [hl367001_82]); (try simp only [hl367002_82]); (with_reducible repeat (first | apply xA | apply xN | apply xD)); exact xM p0'.out (fun _ hk => ⟨hk.2.2.2.2.1, ⟨hk.2.2.2.2.2.1, ⟨hk.2.2.2.2.2.2.1, ⟨hk.2.2.2.2.2.2.2.1, ⟨hk.2.2.2.2.2.2.2.2, ⟨hk.2.2.1, hk.2.2.2.1⟩⟩⟩⟩⟩⟩)⟩, ⟨by (try simp only [hl367001_82]); (try simp only [hl367002_82]); (with_reducible repeat (first | apply xA | apply xN | apply xD)); exact xM p1'.out (fun _ hk => ⟨hk.2.2.2.2.1, ⟨hk.2.2.2.2.2.1, ⟨hk.2.2.2.2.2.2.1, ⟨hk.2.2.2.2.2.2.2.1, ⟨hk.2.2.2.2.2.2.2.2, ⟨hk.2.2.1, hk.2.2.2.1⟩⟩⟩⟩⟩⟩)⟩, ⟨by (try simp only [hl367001_82]); (try simp only [hl367002_82]); (with_reducible repeat (first | apply xA | apply xN | apply xD)); exact xM p2'.out (fun _ hk => ⟨hk.2.2.2.2.1, ⟨hk.2.2.2.2.2.1, ⟨hk.2.2.2.2.2.2.1, ⟨hk.2.2.2.2.2.2.2.1, ⟨hk.2.2.2.2.2.2.2.2, ⟨hk.2.2.1, hk.2.2.2.1⟩⟩⟩⟩⟩⟩)⟩, ⟨by (try simp only [hl367001_82]); (try simp only [hl367002_82]); (with_reducible repeat (first | apply xA | apply xN | apply xD)); exact xM p3'.out (fun _ hk => ⟨hk.2.2.2.2.1, ⟨hk.2.2.2.2.2.1, ⟨hk.2.2.2.2.2.2.1, ⟨hk.2.2.2.2.2.2.2.1, ⟨hk.2.2.2.2.2.2.2.2, ⟨hk.2.2.1, hk.2.2.2.1⟩⟩⟩⟩⟩⟩)⟩, ⟨by (try simp only [hl367001_82]); (try simp only [hl367002_82]); (with_reducible repeat (first | apply xA | apply xN | apply xD)); exact xM p4'.out (fun _ hk => ⟨hk.2.2.2.2.1, ⟨hk.2.2.2.2.2.1, ⟨hk.2.2.2.2.2.2.1, ⟨hk.2.2.2.2.2.2.2.1, ⟨hk.2.2.2.2.2.2.2.2, ⟨hk.2.2.1, hk.2.2.2.1⟩⟩⟩⟩⟩⟩)⟩, ⟨by (try simp only [hl367001_82]); (try simp only [hl367002_82]); (with_reducible repeat (first | apply xA | apply xN | apply xD)); exact xM p5'.out (fun _ hk => ⟨hk.2.2.2.2.1, ⟨hk.2.2.2.2.2.1, ⟨hk.2.2.2.2.2.2.1, ⟨hk.2.2.2.2.2.2.2.1, ⟨hk.2.2.2.2.2.2.2.2, ⟨hk.2.2.1, hk.2.2.2.1⟩⟩⟩⟩⟩⟩)⟩, ⟨by (try simp only [hl367001_82]); (try simp only [hl367002_82]); (with_reducible repeat (first | apply xA | apply xN | apply xD)); exact xM HO407.out (fun _ hk => ⟨hk.2.2.2.1, ⟨hk.2.2.2.2.1, ⟨hk.2.2.2.2.2.1, ⟨hk.2.2.2.2.2.2.1, ⟨hk.2.2.2.2.2.2.2.1, ⟨hk.2.2.2.2.2.2.2.2, hk.2.2.1⟩⟩⟩⟩⟩⟩)⟩, ⟨by (try simp only [hl367001_82]); (try simp only [hl367002_82]); (with_reducible repeat (first | apply xA | apply xN | apply xD)); exact xM HO410.out (fun _ hk => ⟨hk.2.2.2.1, ⟨hk.2.2.2.2.1, ⟨hk.2.2.2.2.2.1, ⟨hk.2.2.2.2.2.2.1, ⟨hk.2.2.2.2.2.2.2.1, ⟨hk.2.2.2.2.2.2.2.2, hk.2.2.1⟩⟩⟩⟩⟩⟩)⟩, ⟨by (try simp only [hl367001_82]); (try simp only [hl367002_82]); (with_reducible repeat (first | refine yN ?_ _ | refine yD ?_ | refine yA ?_ _)); exact BK338.out⟩, ⟨by (try simp only [hl367001_82]); (try simp only [hl367002_82]); (with_reducible repeat (first | refine yN ?_ _ | refine yD ?_ | refine yA ?_ _)); exact BK339.out⟩, ⟨by (try simp only [hl367001_82]); (try simp only [hl367002_82]); (with_reducible repeat (first | refine yN ?_ _ | refine yD ?_ | refine yA ?_ _)); exact BK358.out⟩, ⟨by (try simp only [hl367001_82]); (try simp only [hl367002_82]); (with_reducible repeat (first | refine yN ?_ _ | refine yD ?_ | refine yA ?_ _)); exact BK366.out⟩, ⟨by (try simp only [hl367001_82]); (try simp only [hl367002_82]); (with_reducible repeat (first | refine yN ?_ _ | refine yD ?_ | refine yA ?_ _)); exact BK377.out⟩, ⟨by (try simp only [hl367001_82]); (try simp only [hl367002_82]); (with_reducible repeat (first | refine yN ?_ _ | refine yD ?_ | refine yA ?_ _)); exact BK412.out⟩, ⟨zH HB.out⟩⟩
           case rest =>
            clear HC134
            (try clear c1); (try clear p2); (try clear c3); (try clear c13); (try clear c15); (try clear c16); (try clear c17); (try clear c18); (try clear c30); (try clear c33); (try clear c157); (try clear c158); (try clear c159); (try clear c160); (try clear c161); (try clear c162); (try clear c164); (try clear c165); (try clear c166); (try clear c167); (try clear c170); (try clear c171); (try clear c172); (try clear c173); (try clear c174); (try clear c176); (try clear c177); (try clear c178); (try clear c179); (try clear hcz163_0); (try clear hcz163_1); (try clear hcz163_2); (try clear hcz168_0); (try clear hcz168_1); (try clear hcz168_2); (try clear hcz175_0); (try clear hcz175_1); (try clear hcz175_2); (try clear hcz180_0); (try clear hcz180_1); (try clear hcz180_2); (try clear hfz163_0); (try clear hfz163_1); (try clear hfz163_2); (try clear hfz168_0); (try clear hfz168_1); (try clear hfz168_2); (try clear hfz175_0); (try clear hfz175_1); (try clear hfz175_2); (try clear hfz180_0); (try clear hfz180_1); (try clear hfz180_2)
            obtain ⟨kq, x95_133, rfl, HA, HJ133, p0', p1', p2', p3', p4', p5', p6', p7', BK338, BK339, BK358, BK366, BK377, BK412, HB⟩ := hcut
            have hl378001_133 := (Kd.R_reads' p4'.out).1
            rw [hl378001_133] at p4'
            (try simp only [hl378001_133])
            (try simp only [hl378001_133] at BK338)
            (try simp only [hl378001_133] at BK339)
            (try simp only [hl378001_133] at BK358)
            (try simp only [hl378001_133] at BK366)
            (try simp only [hl378001_133] at BK377)
            (try simp only [hl378001_133] at BK412)
            (try simp only [hl378001_133] at p0')
            (try simp only [hl378001_133] at p1')
            (try simp only [hl378001_133] at p2')
            (try simp only [hl378001_133] at p3')
            (try simp only [hl378001_133] at p5')
            (try simp only [hl378001_133] at p6')
            (try simp only [hl378001_133] at p7')
            have hl378002_133 := (Kd.R_reads' p5'.out).1
            rw [hl378002_133] at p5'
            (try simp only [hl378002_133])
            (try simp only [hl378002_133] at BK338)
            (try simp only [hl378002_133] at BK339)
            (try simp only [hl378002_133] at BK358)
            (try simp only [hl378002_133] at BK366)
            (try simp only [hl378002_133] at BK377)
            (try simp only [hl378002_133] at BK412)
            (try simp only [hl378002_133] at p0')
            (try simp only [hl378002_133] at p1')
            (try simp only [hl378002_133] at p2')
            (try simp only [hl378002_133] at p3')
            (try simp only [hl378002_133] at p4')
            (try simp only [hl378002_133] at p6')
            (try simp only [hl378002_133] at p7')
            cases kq with
            | zero => exact absurd HA.out (fun h_ => by change none = some _ at h_; cases h_)
            | succ kj133 =>
             have H := HA.out
             clear HA
             simp only [laws_FnExactTakeExact.j2] at H
             by_cases c182 : x95_133 = true
             ·subst c182
              have H1 : (some false) = some r := by rw [if_pos rfl] at H; exact H
              clear H
              have H := H1
              clear H1
              exact absurd (H.trans (congrArg some HR_.out)) (by decide)
             ·replace c182 := Bool.eq_false_iff.mpr c182
              subst c182
              have H1 : ((laws_heldFree.f kj133 t369 t392 t393 1).bind fun t414 => (if t414 < 0 then (some false) else (if t414 = t391 then (some true) else (some false)))) = some r := by rw [if_neg (show ¬ (false = true) by decide)] at H; exact H
              clear H
              have H := H1
              clear H1
              replace H := Option.bind_eq_some_iff.mp H
              obtain ⟨t414, A1830, H⟩ := H
              replace H : (if t414 < 0 then (some false) else (if t414 = t391 then (some true) else (some false))) = some r := H
              have A183 := aM A1830
              clear A1830
              by_cases c184 : t414 < 0
              ·rw [if_pos c184] at H
               have c184b0 : decide (t414 < 0) = true := decide_eq_true c184
               clear c184
               obtain rfl := Option.some.inj H
               have hnb185 := NB377_338.out
               have hnc185 := NB338_377.out
               have hnb186 := NB377_339.out
               have hnc186 := NB339_377.out
               have hnb187 := NB377_358.out
               have hnc187 := NB358_377.out
               have hnb188 := NB377_366.out
               have hnc188 := NB366_377.out
               have hnb189 := NB377_412.out
               have hnc189 := NB412_377.out
               have hcz190_0 : wc.cell? ⟨gb377, 0, none⟩ = some (.int .i64 t369) := yc BK377.out 0
               have hcz190_1 : wc.cell? ⟨gb377, 1, none⟩ = some (.slice Ao52 t392.length co52) := yc BK377.out 1
               have hcz190_2 : wc.cell? ⟨gb377, 2, none⟩ = some (.slice Ao54 t393.length co54) := yc BK377.out 2
               have hfz190_0 := yZ BK377.out 0
               have hfz190_1 := yZ BK377.out 1
               have hfz190_2 := yZ BK377.out 2
               go_wp2_with (first | ((with_reducible refine gate_callee (f := 15) rfl ?_); refine goesL_ (some 98) rfl rfl Try.func15 (by kernel_rfl) rfl #[.agg #[.int .i64 t369, .slice Ao52 t392.length co52, .slice Ao54 t393.length co54], .int .i64 1] rfl (by (try simp only [List.map_toArray, List.map_cons, List.map_nil]); first | done | rfl | (simp only [List.length_drop, List.length_take]; rfl)) ?_; (with_reducible refine (laws_heldFree.calls kj133 t369 _ _ t392 _ _ t393 1 t414 _ ?side1 ?side2 ?side3 ?side4 A183.out).mono ?_); (case side1 => repeat (first | exact (Kd.R_reads' p4'.out).2.2 | (with_reducible refine cA ?_ _) | (with_reducible refine cN ?_ _) | (with_reducible refine cD ?_))); (case side2 => exact (Kd.R_reads' p4'.out).2.1); (case side3 => repeat (first | exact (Kd.R_reads' p5'.out).2.2 | (with_reducible refine cA ?_ _) | (with_reducible refine cN ?_ _) | (with_reducible refine cD ?_))); (case side4 => exact (Kd.R_reads' p5'.out).2.1); rintro e w191 ⟨rfl, hb⟩; refine ⟨_, rfl, ?_⟩; replace p0' := xK p0'.out hb; replace p1' := xK p1'.out hb; replace p2' := xK p2'.out hb; replace p3' := xK p3'.out hb; replace p4' := xK p4'.out hb; replace p5' := xK p5'.out hb; replace p6' := xK p6'.out hb; replace p7' := xK p7'.out hb; replace BK338 := yK BK338.out hb; replace BK339 := yK BK339.out hb; replace BK358 := yK BK358.out hb; replace BK366 := yK BK366.out hb; replace BK377 := yK BK377.out hb; replace BK412 := yK BK412.out hb; replace HB := aM (zT (zH HB.out) hb); (try clear hb)))
               go_ret
               exact ⟨by first | rfl | (simp [errW_none, errW_some] <;> rfl) | (simp [*, errW_none, errW_some] <;> rfl), zH HB.out⟩
              ·rw [if_neg c184] at H
               have c184b0 : decide (t414 < 0) = false := decide_eq_false c184
               clear c184
               by_cases c192 : t414 = t391
               ·rw [if_pos c192] at H
                have c192b0 : (t414 == t391) = true := beq_iff_eq.mpr c192
                have c192b1 : (t414 != t391) = false := bne_eq_false_iff_eq.mpr c192
                clear c192
                obtain rfl := Option.some.inj H
                have hnb193 := NB377_338.out
                have hnc193 := NB338_377.out
                have hnb194 := NB377_339.out
                have hnc194 := NB339_377.out
                have hnb195 := NB377_358.out
                have hnc195 := NB358_377.out
                have hnb196 := NB377_366.out
                have hnc196 := NB366_377.out
                have hnb197 := NB377_412.out
                have hnc197 := NB412_377.out
                have hcz198_0 : wc.cell? ⟨gb377, 0, none⟩ = some (.int .i64 t369) := yc BK377.out 0
                have hcz198_1 : wc.cell? ⟨gb377, 1, none⟩ = some (.slice Ao52 t392.length co52) := yc BK377.out 1
                have hcz198_2 : wc.cell? ⟨gb377, 2, none⟩ = some (.slice Ao54 t393.length co54) := yc BK377.out 2
                have hfz198_0 := yZ BK377.out 0
                have hfz198_1 := yZ BK377.out 1
                have hfz198_2 := yZ BK377.out 2
                go_wp2_with (first | ((with_reducible refine gate_callee (f := 15) rfl ?_); refine goesL_ (some 98) rfl rfl Try.func15 (by kernel_rfl) rfl #[.agg #[.int .i64 t369, .slice Ao52 t392.length co52, .slice Ao54 t393.length co54], .int .i64 1] rfl (by (try simp only [List.map_toArray, List.map_cons, List.map_nil]); first | done | rfl | (simp only [List.length_drop, List.length_take]; rfl)) ?_; (with_reducible refine (laws_heldFree.calls kj133 t369 _ _ t392 _ _ t393 1 t414 _ ?side1 ?side2 ?side3 ?side4 A183.out).mono ?_); (case side1 => repeat (first | exact (Kd.R_reads' p4'.out).2.2 | (with_reducible refine cA ?_ _) | (with_reducible refine cN ?_ _) | (with_reducible refine cD ?_))); (case side2 => exact (Kd.R_reads' p4'.out).2.1); (case side3 => repeat (first | exact (Kd.R_reads' p5'.out).2.2 | (with_reducible refine cA ?_ _) | (with_reducible refine cN ?_ _) | (with_reducible refine cD ?_))); (case side4 => exact (Kd.R_reads' p5'.out).2.1); rintro e w199 ⟨rfl, hb⟩; refine ⟨_, rfl, ?_⟩; replace p0' := xK p0'.out hb; replace p1' := xK p1'.out hb; replace p2' := xK p2'.out hb; replace p3' := xK p3'.out hb; replace p4' := xK p4'.out hb; replace p5' := xK p5'.out hb; replace p6' := xK p6'.out hb; replace p7' := xK p7'.out hb; replace BK338 := yK BK338.out hb; replace BK339 := yK BK339.out hb; replace BK358 := yK BK358.out hb; replace BK366 := yK BK366.out hb; replace BK377 := yK BK377.out hb; replace BK412 := yK BK412.out hb; replace HB := aM (zT (zH HB.out) hb); (try clear hb)))
                go_ret
                exact ⟨by first | rfl | (simp [errW_none, errW_some] <;> rfl) | (simp [*, errW_none, errW_some] <;> rfl), zH HB.out⟩
               ·rw [if_neg c192] at H
                have c192b0 : (t414 == t391) = false := beq_eq_false_iff_ne.mpr c192
                have c192b1 : (t414 != t391) = true := bne_iff_ne.mpr c192
                obtain rfl := Option.some.inj H
                have hnb200 := NB377_338.out
                have hnc200 := NB338_377.out
                have hnb201 := NB377_339.out
                have hnc201 := NB339_377.out
                have hnb202 := NB377_358.out
                have hnc202 := NB358_377.out
                have hnb203 := NB377_366.out
                have hnc203 := NB366_377.out
                have hnb204 := NB377_412.out
                have hnc204 := NB412_377.out
                have hcz205_0 : wc.cell? ⟨gb377, 0, none⟩ = some (.int .i64 t369) := yc BK377.out 0
                have hcz205_1 : wc.cell? ⟨gb377, 1, none⟩ = some (.slice Ao52 t392.length co52) := yc BK377.out 1
                have hcz205_2 : wc.cell? ⟨gb377, 2, none⟩ = some (.slice Ao54 t393.length co54) := yc BK377.out 2
                have hfz205_0 := yZ BK377.out 0
                have hfz205_1 := yZ BK377.out 1
                have hfz205_2 := yZ BK377.out 2
                go_wp2_with (first | ((with_reducible refine gate_callee (f := 15) rfl ?_); refine goesL_ (some 98) rfl rfl Try.func15 (by kernel_rfl) rfl #[.agg #[.int .i64 t369, .slice Ao52 t392.length co52, .slice Ao54 t393.length co54], .int .i64 1] rfl (by (try simp only [List.map_toArray, List.map_cons, List.map_nil]); first | done | rfl | (simp only [List.length_drop, List.length_take]; rfl)) ?_; (with_reducible refine (laws_heldFree.calls kj133 t369 _ _ t392 _ _ t393 1 t414 _ ?side1 ?side2 ?side3 ?side4 A183.out).mono ?_); (case side1 => repeat (first | exact (Kd.R_reads' p4'.out).2.2 | (with_reducible refine cA ?_ _) | (with_reducible refine cN ?_ _) | (with_reducible refine cD ?_))); (case side2 => exact (Kd.R_reads' p4'.out).2.1); (case side3 => repeat (first | exact (Kd.R_reads' p5'.out).2.2 | (with_reducible refine cA ?_ _) | (with_reducible refine cN ?_ _) | (with_reducible refine cD ?_))); (case side4 => exact (Kd.R_reads' p5'.out).2.1); rintro e w206 ⟨rfl, hb⟩; refine ⟨_, rfl, ?_⟩; replace p0' := xK p0'.out hb; replace p1' := xK p1'.out hb; replace p2' := xK p2'.out hb; replace p3' := xK p3'.out hb; replace p4' := xK p4'.out hb; replace p5' := xK p5'.out hb; replace p6' := xK p6'.out hb; replace p7' := xK p7'.out hb; replace BK338 := yK BK338.out hb; replace BK339 := yK BK339.out hb; replace BK358 := yK BK358.out hb; replace BK366 := yK BK366.out hb; replace BK377 := yK BK377.out hb; replace BK412 := yK BK412.out hb; replace HB := aM (zT (zH HB.out) hb); (try clear hb)))
                go_ret
                exact ⟨by first | rfl | (simp [errW_none, errW_some] <;> rfl) | (simp [*, errW_none, errW_some] <;> rfl), zH HB.out⟩
          ·rw [if_neg c130] at H
           have c130b0 : (t394 == t391) = false := beq_eq_false_iff_ne.mpr c130
           have c130b1 : (t394 != t391) = true := bne_iff_ne.mpr c130
           obtain rfl := Option.some.inj H
           have hnb207 := NB377_338.out
           have hnc207 := NB338_377.out
           have hnb208 := NB377_339.out
           have hnc208 := NB339_377.out
           have hnb209 := NB377_358.out
           have hnc209 := NB358_377.out
           have hnb210 := NB377_366.out
           have hnc210 := NB366_377.out
           have hcz211_0 : wc.cell? ⟨gb377, 0, none⟩ = some (.int .i64 t369) := yc BK377.out 0
           have hcz211_1 : wc.cell? ⟨gb377, 1, none⟩ = some (.slice Ao52 t370.length co52) := yc BK377.out 1
           have hcz211_2 : wc.cell? ⟨gb377, 2, none⟩ = some (.slice Ao54 t373.length co54) := yc BK377.out 2
           have hfz211_0 := yZ BK377.out 0
           have hfz211_1 := yZ BK377.out 1
           have hfz211_2 := yZ BK377.out 2
           go_wp2_with (first | ((with_reducible refine gate_callee (f := 14) rfl ?_); refine goesL_ (some 70) rfl rfl Try.func14 (by kernel_rfl) rfl #[.agg #[.int .i64 t369, .slice Ao52 t370.length co52, .slice Ao54 t373.length co54], .int .i64 1] rfl (by (try simp only [List.map_toArray, List.map_cons, List.map_nil]); first | done | rfl | (simp only [List.length_drop, List.length_take]; rfl)) ?_; (with_reducible refine (laws_markFree.calls kj82 t369 (fun k_ => some k_ = oB Ao52 t370.length co52) (.slice Ao52 t370.length co52) t370 (fun k_ => some k_ = oB Ao54 t373.length co54) (.slice Ao54 t373.length co54) t373 1 t391 t392 t393 w _ ?side1 ?side2 ?side3 ?side4 ?side5 A119.out).mono ?_); (case side1 => repeat (first | (with_reducible first | exact HB.out | apply zA | apply zN | apply zD | refine zS ?_ GE338.out | refine zS ?_ GE339.out | refine zS ?_ GE358.out | refine zS ?_ GE366.out | refine zS ?_ GE377.out) | exact HB.out)); (case side2 => exact Kd.R_tight rfl p4'.out); (case side3 => exact fun k_ e_ => (p4'.out.1 k_ e_.symm).2.2.2.2); (case side4 => exact Kd.R_tight rfl p5'.out); (case side5 => exact fun k_ e_ => (p5'.out.1 k_ e_.symm).2.2.2.2); rintro e w212 ⟨rfl, hy0, hy1, hb, hkp⟩; refine ⟨_, rfl, ?_⟩; replace p0' := kB p0'.out hkp (fun k_ hk_ hs_ => Or.elim hs_ (fun e_ => (hk_.2.2.2.1) e_) (fun e_ => (hk_.2.2.2.2) e_)); replace p1' := kB p1'.out hkp (fun k_ hk_ hs_ => Or.elim hs_ (fun e_ => (hk_.2.2.2.1) e_) (fun e_ => (hk_.2.2.2.2) e_)); replace p2' := kB p2'.out hkp (fun k_ hk_ hs_ => Or.elim hs_ (fun e_ => (hk_.2.2.2.1) e_) (fun e_ => (hk_.2.2.2.2) e_)); replace p3' := kB p3'.out hkp (fun k_ hk_ hs_ => Or.elim hs_ (fun e_ => (hk_.2.2.2.1) e_) (fun e_ => (hk_.2.2.2.2) e_)); replace BK338 := aM (blk_kept BK338.out hkp (fun hs_ => Or.elim hs_ (fun e_ => (fun e_ => (Kd.R_ne p4'.out BK338.out (by decide)) e_) e_) (fun e_ => (fun e_ => (Kd.R_ne p5'.out BK338.out (by decide)) e_) e_))); replace BK339 := aM (blk_kept BK339.out hkp (fun hs_ => Or.elim hs_ (fun e_ => (fun e_ => (Kd.R_ne p4'.out BK339.out (by decide)) e_) e_) (fun e_ => (fun e_ => (Kd.R_ne p5'.out BK339.out (by decide)) e_) e_))); replace BK358 := aM (blk_kept BK358.out hkp (fun hs_ => Or.elim hs_ (fun e_ => (fun e_ => (Kd.R_ne p4'.out BK358.out (by decide)) e_) e_) (fun e_ => (fun e_ => (Kd.R_ne p5'.out BK358.out (by decide)) e_) e_))); replace BK366 := aM (blk_kept BK366.out hkp (fun hs_ => Or.elim hs_ (fun e_ => (fun e_ => (Kd.R_ne p4'.out BK366.out (by decide)) e_) e_) (fun e_ => (fun e_ => (Kd.R_ne p5'.out BK366.out (by decide)) e_) e_))); replace BK377 := aM (blk_kept BK377.out hkp (fun hs_ => Or.elim hs_ (fun e_ => (fun e_ => (Kd.R_ne p4'.out BK377.out (by decide)) e_) e_) (fun e_ => (fun e_ => (Kd.R_ne p5'.out BK377.out (by decide)) e_) e_))); replace p4' := aM (Kd.R_reok rfl hy0 (fun k_ e_ => p4'.out.1 k_ e_)); replace p5' := aM (Kd.R_reok rfl hy1 (fun k_ e_ => p5'.out.1 k_ e_)); replace HB := aM (hb); (try clear hb); (try clear hkp); (try clear hy0); (try clear hy1); have hcz213_0 : w212.cell? ⟨gb377, 0, none⟩ = some (.int .i64 t369) := yc BK377.out 0; have hcz213_1 : w212.cell? ⟨gb377, 1, none⟩ = some (.slice Ao52 t370.length co52) := yc BK377.out 1; have hcz213_2 : w212.cell? ⟨gb377, 2, none⟩ = some (.slice Ao54 t373.length co54) := yc BK377.out 2; have hfz213_0 := yZ BK377.out 0; have hfz213_1 := yZ BK377.out 1; have hfz213_2 := yZ BK377.out 2) | ((with_reducible refine gate_callee (f := 15) rfl ?_); refine goesL_ (some 73) rfl rfl Try.func15 (by kernel_rfl) rfl #[.agg #[.int .i64 t369, .slice Ao52 t392.length co52, .slice Ao54 t393.length co54], .int .i64 1] rfl (by (try simp only [List.map_toArray, List.map_cons, List.map_nil]); first | done | (rw [show t392.length = t370.length from (Kd.R_reads' p4'.out).1.symm, show t393.length = t373.length from (Kd.R_reads' p5'.out).1.symm] <;> rfl) | rfl | (simp only [List.length_drop, List.length_take]; rfl)) ?_; (with_reducible refine (laws_heldFree.calls kj82 t369 _ _ t392 _ _ t393 1 t394 _ ?side1 ?side2 ?side3 ?side4 A120.out).mono ?_); (case side1 => repeat (first | exact (Kd.R_reads' p4'.out).2.2 | (with_reducible refine cA ?_ _) | (with_reducible refine cN ?_ _) | (with_reducible refine cD ?_))); (case side2 => rw [show t392.length = t370.length from (Kd.R_reads' p4'.out).1.symm]; exact (Kd.R_reads' p4'.out).2.1); (case side3 => repeat (first | exact (Kd.R_reads' p5'.out).2.2 | (with_reducible refine cA ?_ _) | (with_reducible refine cN ?_ _) | (with_reducible refine cD ?_))); (case side4 => rw [show t393.length = t373.length from (Kd.R_reads' p5'.out).1.symm]; exact (Kd.R_reads' p5'.out).2.1); rintro e w214 ⟨rfl, hb⟩; refine ⟨_, rfl, ?_⟩; replace p0' := xK p0'.out hb; replace p1' := xK p1'.out hb; replace p2' := xK p2'.out hb; replace p3' := xK p3'.out hb; replace p4' := xK p4'.out hb; replace p5' := xK p5'.out hb; replace BK338 := yK BK338.out hb; replace BK339 := yK BK339.out hb; replace BK358 := yK BK358.out hb; replace BK366 := yK BK366.out hb; replace BK377 := yK BK377.out hb; replace HB := aM (zT (zH HB.out) hb); (try clear hb)))
           go_ret
           exact ⟨by first | rfl | (simp [errW_none, errW_some] <;> rfl) | (simp [*, errW_none, errW_some] <;> rfl), zH HB.out⟩
     ·replace c81 := Bool.eq_false_iff.mpr c81
      subst c81
      have H1 : (some false) = some r := by rw [if_neg (show ¬ (false = true) by decide)] at H; exact H
      clear H
      have H := H1
      clear H1
      exact absurd (H.trans (congrArg some HR_.out)) (by decide)
def okS47 (x : S47) : Prop := (Lit.int .i64 x.f0).wf = true ∧ (Lit.int .i64 x.f1).wf = true
/-- The one pure statement of laws_FnExactTakeExact. -/
def laws_FnExactTakeExact.PureG : Prop := ∀ (a0_0 : Int) (l0_1 : List (S47)) (l0_2 : List (S47)) (a1_0 : Int) (a1_1 : Int), (Lit.int .i64 a0_0).wf = true → (l0_1.length ≤ maxLen ∧ ∀ x_ ∈ l0_1, okS47 x_) → (l0_2.length ≤ maxLen ∧ ∀ x_ ∈ l0_2, okS47 x_) → (Lit.int .i64 a1_0).wf = true → (Lit.int .i64 a1_1).wf = true → ∃ k, laws_FnExactTakeExact.f k a0_0 l0_1 l0_2 a1_0 a1_1 = some true

end Go.Proofs.Ytfhfaeeokibhaaa.PFnExactTakeExact
