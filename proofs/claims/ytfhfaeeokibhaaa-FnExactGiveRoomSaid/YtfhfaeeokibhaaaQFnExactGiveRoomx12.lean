/- The walks of FnExactGiveRoom: Go's calls come to what the Lean functions beside them say; no condition. -/
import Derived.Test.YtfhfaeeokibhaaaQFnExactGiveRoomx0
import Derived.Test.YtfhfaeeokibhaaaQFnExactGiveRoomx2
import Derived.Test.YtfhfaeeokibhaaaQFnExactGiveRoomx3
import Derived.Test.YtfhfaeeokibhaaaQFnExactGiveRoomx6
import Derived.Test.YtfhfaeeokibhaaaQFnExactGiveRoomx11
namespace Go.Proofs.Ytfhfaeeokibhaaa.PFnExactGiveRoom
open Go.RowKit Go.Proofs.YtfhfaeeokibhaaaW.PrintWords Go.Proofs.YtfhfaeeokibhaaaW.PrintLast Go.Proofs.YtfhfaeeokibhaaaW.PrintMore
attribute [local go_sem] max2_int min2_int max_two min_two max_three min_three max_four min_four   -- for this text's walks alone
set_option linter.unusedVariables false
set_option linter.unusedSimpArgs false
set_option maxRecDepth 100000

/-! ### laws_FnExactGiveRoom: function 8 -/
mutual
def laws_FnExactGiveRoom.j0 : Nat → Bool → Bool → Bool → Int → List (S47) → List (S47) → Int → Int → Int → List (S49) → List (S49) → Int → List (S49) → List (S49) → Int → List (S49) → List (S49) → Option (Bool)
 | 0, _, _, _, _, _, _, _, _, _, _, _, _, _, _, _, _, _ => none
 | k + 1, x7, x10, x46, x302000, x302001, x302002, x303000, x303001, x322000, x322001, x322002, x330000, x330001, x330002, x341000, x341001, x341002 => if x46 = true then (some false) else ((laws_toFree.f k x302000 x302001 x302002).bind fun bt342 => ((laws_eqFree.f k x330000 x330001 x330002 bt342.1 bt342.2.1 bt342.2.2).bind fun t349 => (if t349 = true then ((laws_markFree.f k x330000 x330001 x330002 1).bind fun bt350 => (if bt350.1 < 0 then (laws_FnExactGiveRoom.j1 k x7 true x302000 x302001 x302002 x303000 x303001 x322000 x322001 x322002 x341000 x341001 x341002) else ((laws_eqFree.f k x341000 x341001 x341002 x322000 x322001 x322002).bind fun t353 => (if t353 = true then (laws_FnExactGiveRoom.j1 k x7 (x10 != x7) x302000 x302001 x302002 x303000 x303001 x322000 x322001 x322002 x341000 x341001 x341002) else (laws_FnExactGiveRoom.j1 k x7 true x302000 x302001 x302002 x303000 x303001 x322000 x322001 x322002 x341000 x341001 x341002))))) else (some false))))
def laws_FnExactGiveRoom.j1 : Nat → Bool → Bool → Int → List (S47) → List (S47) → Int → Int → Int → List (S49) → List (S49) → Int → List (S49) → List (S49) → Option (Bool)
 | 0, _, _, _, _, _, _, _, _, _, _, _, _, _ => none
 | k + 1, x7, x67, x302000, x302001, x302002, x303000, x303001, x322000, x322001, x322002, x341000, x341001, x341002 => if x67 = true then (some false) else ((laws_markFree.f k x341000 x341001 x341002 1).bind fun bt354 => ((laws_heldFree.f k x341000 bt354.2.1 bt354.2.2 1).bind fun t357 => (if t357 < 0 then (some false) else (if t357 = bt354.1 then ((laws_toFree.f k x302000 x302001 x302002).bind fun bt358 => ((laws_toExtent.f x303000 x303001).bind fun bt365 => ((impl_GiveRoom.f k bt358.1 bt358.2.1 bt358.2.2 bt365.1 bt365.2).bind fun bt367 => ((laws_eqFree.f k bt367.1 bt367.2.1 bt367.2.2.1 x322000 x322001 x322002).bind fun t376 => (if t376 = true then (laws_FnExactGiveRoom.j2 k bt354.1 (bt367.2.2.2 != x7) x341000 bt354.2.1 bt354.2.2) else (laws_FnExactGiveRoom.j2 k bt354.1 true x341000 bt354.2.1 bt354.2.2)))))) else (some false)))))
def laws_FnExactGiveRoom.j2 : Nat → Int → Bool → Int → List (S49) → List (S49) → Option (Bool)
 | 0, _, _, _, _, _ => none
 | k + 1, x12, x95, x341000, x341001, x341002 => if x95 = true then (some false) else ((laws_heldFree.f k x341000 x341001 x341002 1).bind fun t377 => (if t377 < 0 then (some false) else (if t377 = x12 then (some true) else (some false))))
end
def laws_FnExactGiveRoom.f (k : Nat) (a0_0 : Int) (l0_1 : List (S47)) (l0_2 : List (S47)) (a1_0 : Int) (a1_1 : Int) : Option (Bool) := (laws_szFree.f a0_0 l0_1 l0_2 1048576).bind fun t303 => (if t303 < 0 then (some true) else ((laws_toFree.f k a0_0 l0_1 l0_2).bind fun bt304 => ((laws_toExtent.f a1_0 a1_1).bind fun bt311 => ((spec_GiveRoom.f k bt304.1 bt304.2.1 bt304.2.2 bt311.1 bt311.2).bind fun bt313 => ((laws_toFree.f k a0_0 l0_1 l0_2).bind fun bt322 => ((laws_toExtent.f a1_0 a1_1).bind fun bt330 => ((impl_GiveRoom.f k bt322.1 bt322.2.1 bt322.2.2 bt330.1 bt330.2).bind fun bt332 => ((laws_eqFree.f k bt332.1 bt332.2.1 bt332.2.2.1 bt313.1 bt313.2.1 bt313.2.2.1).bind fun t341 => (if t341 = true then (laws_FnExactGiveRoom.j0 k bt313.2.2.2 bt332.2.2.2 (bt332.2.2.2 != bt313.2.2.2) a0_0 l0_1 l0_2 a1_0 a1_1 bt313.1 bt313.2.1 bt313.2.2.1 bt322.1 bt322.2.1 bt322.2.2 bt332.1 bt332.2.1 bt332.2.2.1) else (laws_FnExactGiveRoom.j0 k bt313.2.2.2 bt332.2.2.2 true a0_0 l0_1 l0_2 a1_0 a1_1 bt313.1 bt313.2.1 bt313.2.2.1 bt322.1 bt322.2.1 bt322.2.2 bt332.1 bt332.2.1 bt332.2.2.1))))))))))
theorem laws_FnExactGiveRoom.mono_l : ∀ k, (∀ y0 y1 y2 y3 y4 y5 y6 y7 y8 y9 y10 y11 y12 y13 y14 y15 y16, LeO (laws_FnExactGiveRoom.j0 k y0 y1 y2 y3 y4 y5 y6 y7 y8 y9 y10 y11 y12 y13 y14 y15 y16) (laws_FnExactGiveRoom.j0 (k + 1) y0 y1 y2 y3 y4 y5 y6 y7 y8 y9 y10 y11 y12 y13 y14 y15 y16)) ∧ (∀ y0 y1 y2 y3 y4 y5 y6 y7 y8 y9 y10 y11 y12, LeO (laws_FnExactGiveRoom.j1 k y0 y1 y2 y3 y4 y5 y6 y7 y8 y9 y10 y11 y12) (laws_FnExactGiveRoom.j1 (k + 1) y0 y1 y2 y3 y4 y5 y6 y7 y8 y9 y10 y11 y12)) ∧ (∀ y0 y1 y2 y3 y4, LeO (laws_FnExactGiveRoom.j2 k y0 y1 y2 y3 y4) (laws_FnExactGiveRoom.j2 (k + 1) y0 y1 y2 y3 y4))
 | 0 => ⟨fun _ _ _ _ _ _ _ _ _ _ _ _ _ _ _ _ _ r h => by simp [laws_FnExactGiveRoom.j0] at h, fun _ _ _ _ _ _ _ _ _ _ _ _ _ r h => by simp [laws_FnExactGiveRoom.j1] at h, fun _ _ _ _ _ r h => by simp [laws_FnExactGiveRoom.j2] at h⟩
 | k + 1 => by
  obtain ⟨ih0, ih1, ih2⟩ := laws_FnExactGiveRoom.mono_l k
  refine ⟨?_, ?_, ?_⟩
  ·intro y0 y1 y2 y3 y4 y5 y6 y7 y8 y9 y10 y11 y12 y13 y14 y15 y16
   unfold laws_FnExactGiveRoom.j0
   repeat' first
   | (with_reducible exact ih0 _ _ _ _ _ _ _ _ _ _ _ _ _ _ _ _ _)
   | (with_reducible exact ih1 _ _ _ _ _ _ _ _ _ _ _ _ _)
   | (with_reducible exact ih2 _ _ _ _ _)
   | (with_reducible exact impl_GiveRoom.mono _ _ _ _ _ _)
   | (with_reducible exact laws_eqFree.mono _ _ _ _ _ _ _)
   | (with_reducible exact laws_heldFree.mono _ _ _ _ _)
   | (with_reducible exact laws_markFree.mono _ _ _ _ _)
   | (with_reducible exact laws_toFree.mono _ _ _ _)
   | (with_reducible exact spec_GiveRoom.mono _ _ _ _ _ _)
   | (with_reducible exact LeO.refl _)
   | (with_reducible exact LeO.none _)
   | (with_reducible refine LeO.ite ?_ ?_)
   | (with_reducible refine LeO.bind ?_ (fun _ => ?_))
   | exact ih0 _ _ _ _ _ _ _ _ _ _ _ _ _ _ _ _ _
   | exact ih1 _ _ _ _ _ _ _ _ _ _ _ _ _
   | exact ih2 _ _ _ _ _
   | exact impl_GiveRoom.mono _ _ _ _ _ _
   | exact laws_eqFree.mono _ _ _ _ _ _ _
   | exact laws_heldFree.mono _ _ _ _ _
   | exact laws_markFree.mono _ _ _ _ _
   | exact laws_toFree.mono _ _ _ _
   | exact spec_GiveRoom.mono _ _ _ _ _ _
   | exact LeO.none _
   | refine LeO.ite ?_ ?_
   | refine LeO.bind ?_ (fun _ => ?_)
  ·intro y0 y1 y2 y3 y4 y5 y6 y7 y8 y9 y10 y11 y12
   unfold laws_FnExactGiveRoom.j1
   repeat' first
   | (with_reducible exact ih0 _ _ _ _ _ _ _ _ _ _ _ _ _ _ _ _ _)
   | (with_reducible exact ih1 _ _ _ _ _ _ _ _ _ _ _ _ _)
   | (with_reducible exact ih2 _ _ _ _ _)
   | (with_reducible exact impl_GiveRoom.mono _ _ _ _ _ _)
   | (with_reducible exact laws_eqFree.mono _ _ _ _ _ _ _)
   | (with_reducible exact laws_heldFree.mono _ _ _ _ _)
   | (with_reducible exact laws_markFree.mono _ _ _ _ _)
   | (with_reducible exact laws_toFree.mono _ _ _ _)
   | (with_reducible exact spec_GiveRoom.mono _ _ _ _ _ _)
   | (with_reducible exact LeO.refl _)
   | (with_reducible exact LeO.none _)
   | (with_reducible refine LeO.ite ?_ ?_)
   | (with_reducible refine LeO.bind ?_ (fun _ => ?_))
   | exact ih0 _ _ _ _ _ _ _ _ _ _ _ _ _ _ _ _ _
   | exact ih1 _ _ _ _ _ _ _ _ _ _ _ _ _
   | exact ih2 _ _ _ _ _
   | exact impl_GiveRoom.mono _ _ _ _ _ _
   | exact laws_eqFree.mono _ _ _ _ _ _ _
   | exact laws_heldFree.mono _ _ _ _ _
   | exact laws_markFree.mono _ _ _ _ _
   | exact laws_toFree.mono _ _ _ _
   | exact spec_GiveRoom.mono _ _ _ _ _ _
   | exact LeO.none _
   | refine LeO.ite ?_ ?_
   | refine LeO.bind ?_ (fun _ => ?_)
  ·intro y0 y1 y2 y3 y4
   unfold laws_FnExactGiveRoom.j2
   repeat' first
   | (with_reducible exact ih0 _ _ _ _ _ _ _ _ _ _ _ _ _ _ _ _ _)
   | (with_reducible exact ih1 _ _ _ _ _ _ _ _ _ _ _ _ _)
   | (with_reducible exact ih2 _ _ _ _ _)
   | (with_reducible exact impl_GiveRoom.mono _ _ _ _ _ _)
   | (with_reducible exact laws_eqFree.mono _ _ _ _ _ _ _)
   | (with_reducible exact laws_heldFree.mono _ _ _ _ _)
   | (with_reducible exact laws_markFree.mono _ _ _ _ _)
   | (with_reducible exact laws_toFree.mono _ _ _ _)
   | (with_reducible exact spec_GiveRoom.mono _ _ _ _ _ _)
   | (with_reducible exact LeO.refl _)
   | (with_reducible exact LeO.none _)
   | (with_reducible refine LeO.ite ?_ ?_)
   | (with_reducible refine LeO.bind ?_ (fun _ => ?_))
   | exact ih0 _ _ _ _ _ _ _ _ _ _ _ _ _ _ _ _ _
   | exact ih1 _ _ _ _ _ _ _ _ _ _ _ _ _
   | exact ih2 _ _ _ _ _
   | exact impl_GiveRoom.mono _ _ _ _ _ _
   | exact laws_eqFree.mono _ _ _ _ _ _ _
   | exact laws_heldFree.mono _ _ _ _ _
   | exact laws_markFree.mono _ _ _ _ _
   | exact laws_toFree.mono _ _ _ _
   | exact spec_GiveRoom.mono _ _ _ _ _ _
   | exact LeO.none _
   | refine LeO.ite ?_ ?_
   | refine LeO.bind ?_ (fun _ => ?_)
theorem laws_FnExactGiveRoom.mono : ∀ a0 a1 a2 a3 a4 k, LeO (laws_FnExactGiveRoom.f k a0 a1 a2 a3 a4) (laws_FnExactGiveRoom.f (k + 1) a0 a1 a2 a3 a4) := by
 intro a0 a1 a2 a3 a4 k
 obtain ⟨ih0, ih1, ih2⟩ := laws_FnExactGiveRoom.mono_l k
 unfold laws_FnExactGiveRoom.f
 repeat' first
   | (with_reducible exact ih0 _ _ _ _ _ _ _ _ _ _ _ _ _ _ _ _ _)
   | (with_reducible exact ih1 _ _ _ _ _ _ _ _ _ _ _ _ _)
   | (with_reducible exact ih2 _ _ _ _ _)
   | (with_reducible exact impl_GiveRoom.mono _ _ _ _ _ _)
   | (with_reducible exact laws_eqFree.mono _ _ _ _ _ _ _)
   | (with_reducible exact laws_heldFree.mono _ _ _ _ _)
   | (with_reducible exact laws_markFree.mono _ _ _ _ _)
   | (with_reducible exact laws_toFree.mono _ _ _ _)
   | (with_reducible exact spec_GiveRoom.mono _ _ _ _ _ _)
   | (with_reducible exact LeO.refl _)
   | (with_reducible exact LeO.none _)
   | (with_reducible refine LeO.ite ?_ ?_)
   | (with_reducible refine LeO.bind ?_ (fun _ => ?_))
   | exact ih0 _ _ _ _ _ _ _ _ _ _ _ _ _ _ _ _ _
   | exact ih1 _ _ _ _ _ _ _ _ _ _ _ _ _
   | exact ih2 _ _ _ _ _
   | exact impl_GiveRoom.mono _ _ _ _ _ _
   | exact laws_eqFree.mono _ _ _ _ _ _ _
   | exact laws_heldFree.mono _ _ _ _ _
   | exact laws_markFree.mono _ _ _ _ _
   | exact laws_toFree.mono _ _ _ _
   | exact spec_GiveRoom.mono _ _ _ _ _ _
   | exact LeO.none _
   | refine LeO.ite ?_ ?_
   | refine LeO.bind ?_ (fun _ => ?_)
def laws_FnExactGiveRoom.T5 : Bool × List (List Nat × List Nat) := (true, [([], []), ([0], [0]), ([], []), ([2, 1], [2]), ([1, 3, 3], [1, 3]), ([4], [4]), ([5], [5]), ([5], [5]), ([], []), ([8, 6, 4, 0, 1, 2, 3, 4, 5, 6, 8], [6, 8]), ([7, 9, 0, 1, 2, 3, 4, 5, 6, 7, 8, 9], [7])])
def laws_FnExactGiveRoom.B5 : List Nat := [0, 1, 0, 7, 15, 31, 63, 63, 0, 383, 1023]
theorem laws_FnExactGiveRoom.tab5 : rtab .any (opsOf Try.f8 5) = laws_FnExactGiveRoom.T5 := by kernel_rfl
theorem laws_FnExactGiveRoom.bits5 : waitsOk laws_FnExactGiveRoom.T5.2 laws_FnExactGiveRoom.B5 = true := by kernel_rfl
def laws_FnExactGiveRoom.T7 : Bool × List (List Nat × List Nat) := (true, [([], []), ([], []), ([1], [1]), ([0, 2, 2], [0, 2]), ([3], [3]), ([4], [4]), ([4], [4]), ([], []), ([7, 5, 3, 0, 1, 2, 3, 4, 5, 7], [5, 7]), ([6, 8, 0, 1, 2, 3, 4, 5, 6, 7, 8], [6])])
def laws_FnExactGiveRoom.B7 : List Nat := [0, 0, 2, 7, 15, 31, 31, 0, 191, 511]
theorem laws_FnExactGiveRoom.tab7 : rtab .any (opsOf Try.f8 7) = laws_FnExactGiveRoom.T7 := by kernel_rfl
theorem laws_FnExactGiveRoom.bits7 : waitsOk laws_FnExactGiveRoom.T7.2 laws_FnExactGiveRoom.B7 = true := by kernel_rfl
def laws_FnExactGiveRoom.T24 : Bool × List (List Nat × List Nat) := (true, [([], []), ([0], [0]), ([], []), ([2, 1], [2]), ([1, 3, 3], [1, 3]), ([4], [4]), ([5], [5]), ([5], [5]), ([], []), ([8, 6, 4, 0, 1, 2, 3, 4, 5, 6, 8], [6, 8]), ([7, 9, 0, 1, 2, 3, 4, 5, 6, 7, 8, 9], [7])])
def laws_FnExactGiveRoom.B24 : List Nat := [0, 1, 0, 7, 15, 31, 63, 63, 0, 383, 1023]
theorem laws_FnExactGiveRoom.tab24 : rtab .any (opsOf Try.f8 24) = laws_FnExactGiveRoom.T24 := by kernel_rfl
theorem laws_FnExactGiveRoom.bits24 : waitsOk laws_FnExactGiveRoom.T24.2 laws_FnExactGiveRoom.B24 = true := by kernel_rfl
set_option maxHeartbeats 8000000 in
set_option maxRecDepth 100000 in
theorem laws_FnExactGiveRoom.calls (k : Nat) (a0_0 : Int) (A0_1 : Option Addr) (c0_1 : Nat) (l0_1 : List (S47)) (A0_2 : Option Addr) (c0_2 : Nat) (l0_2 : List (S47)) (a1_0 : Int) (a1_1 : Int) (r : Bool) (w : World) (hr0_1 : Kd.C k47 w A0_1 l0_1.length l0_1) (hc0_1 : l0_1.length ≤ c0_1) (hr0_2 : Kd.C k47 w A0_2 l0_2.length l0_2) (hc0_2 : l0_2.length ≤ c0_2) (h : laws_FnExactGiveRoom.f k a0_0 l0_1 l0_2 a1_0 a1_1 = some r) (hr_ : r = true := by rfl) :
  Calls Try.prog 8 #[.agg #[.int .i64 a0_0, .slice A0_1 l0_1.length c0_1, .slice A0_2 l0_2.length c0_2], .agg #[.int .i64 a1_0, .int .i64 a1_1]] w fun e w' => e = .returned (.bool r) ∧ Below w.heap.size w w' := by
 have HR_ := aM hr_
 clear hr_
 have hu32 := Try.underlying32
 have hu47 := Try.underlying47
 have hu24 := Try.underlying24
 have HR0_1 := aM hr0_1
 have HC0_1 := aM hc0_1
 clear hr0_1 hc0_1
 have HR0_2 := aM hr0_2
 have HC0_2 := aM hc0_2
 clear hr0_2 hc0_2
 have HB := aM (Below.refl w.heap.size w)
 have H : ((laws_szFree.f a0_0 l0_1 l0_2 1048576).bind fun t303 => (if t303 < 0 then (some true) else ((laws_toFree.f k a0_0 l0_1 l0_2).bind fun bt304 => ((laws_toExtent.f a1_0 a1_1).bind fun bt311 => ((spec_GiveRoom.f k bt304.1 bt304.2.1 bt304.2.2 bt311.1 bt311.2).bind fun bt313 => ((laws_toFree.f k a0_0 l0_1 l0_2).bind fun bt322 => ((laws_toExtent.f a1_0 a1_1).bind fun bt330 => ((impl_GiveRoom.f k bt322.1 bt322.2.1 bt322.2.2 bt330.1 bt330.2).bind fun bt332 => ((laws_eqFree.f k bt332.1 bt332.2.1 bt332.2.2.1 bt313.1 bt313.2.1 bt313.2.2.1).bind fun t341 => (if t341 = true then (laws_FnExactGiveRoom.j0 k bt313.2.2.2 bt332.2.2.2 (bt332.2.2.2 != bt313.2.2.2) a0_0 l0_1 l0_2 a1_0 a1_1 bt313.1 bt313.2.1 bt313.2.2.1 bt322.1 bt322.2.1 bt322.2.2 bt332.1 bt332.2.1 bt332.2.2.1) else (laws_FnExactGiveRoom.j0 k bt313.2.2.2 bt332.2.2.2 true a0_0 l0_1 l0_2 a1_0 a1_1 bt313.1 bt313.2.1 bt313.2.2.1 bt322.1 bt322.2.1 bt322.2.2 bt332.1 bt332.2.1 bt332.2.2.1))))))))))) = some r := h
 clear h
 replace H := Option.bind_eq_some_iff.mp H
 obtain ⟨t303, A30, H⟩ := H
 replace H : (if t303 < 0 then (some true) else ((laws_toFree.f k a0_0 l0_1 l0_2).bind fun bt304 => ((laws_toExtent.f a1_0 a1_1).bind fun bt311 => ((spec_GiveRoom.f k bt304.1 bt304.2.1 bt304.2.2 bt311.1 bt311.2).bind fun bt313 => ((laws_toFree.f k a0_0 l0_1 l0_2).bind fun bt322 => ((laws_toExtent.f a1_0 a1_1).bind fun bt330 => ((impl_GiveRoom.f k bt322.1 bt322.2.1 bt322.2.2 bt330.1 bt330.2).bind fun bt332 => ((laws_eqFree.f k bt332.1 bt332.2.1 bt332.2.2.1 bt313.1 bt313.2.1 bt313.2.2.1).bind fun t341 => (if t341 = true then (laws_FnExactGiveRoom.j0 k bt313.2.2.2 bt332.2.2.2 (bt332.2.2.2 != bt313.2.2.2) a0_0 l0_1 l0_2 a1_0 a1_1 bt313.1 bt313.2.1 bt313.2.2.1 bt322.1 bt322.2.1 bt322.2.2 bt332.1 bt332.2.1 bt332.2.2.1) else (laws_FnExactGiveRoom.j0 k bt313.2.2.2 bt332.2.2.2 true a0_0 l0_1 l0_2 a1_0 a1_1 bt313.1 bt313.2.1 bt313.2.2.1 bt322.1 bt322.2.1 bt322.2.2 bt332.1 bt332.2.1 bt332.2.2.1)))))))))) = some r := H
 have A3 := aM A30
 clear A30
 by_cases c4 : t303 < 0
 ·rw [if_pos c4] at H
  have c4b0 : decide (t303 < 0) = true := decide_eq_true c4
  clear c4
  obtain rfl := Option.some.inj H
  go_enter Try.func8, Try.ntmps8
  go_wp2_with (first | ((with_reducible refine gate_dst (N := 2) rfl ?_); refine box_event ?hg (N := 2) ?hd (cs := #[.int .i64 a0_0, .slice A0_1 l0_1.length c0_1, .slice A0_2 l0_2.length c0_2]) (t := 32) ?hr ?_; (case hd => rfl); (case hg => rfl); (case hr => first | (go_simp; done) | (go_simp; rfl)); intro gb301 hg w5 hbox hb; have BK301 := aM (hbox); have GW301 := aM ((by rw [hg]; exact (zZ (zH HB.out)) : w.heap.size ≤ gb301)); have GE301 := aM ((by rw [hg]; exact (zZ (zH HB.out)) : w.heap.size ≤ gb301)); replace HB := aM (zT (zH HB.out) hb); clear hb hbox hg) | ((with_reducible refine gate_dst (N := 3) rfl ?_); refine box_event ?hg (N := 3) ?hd (cs := #[.int .i64 a1_0, .int .i64 a1_1]) (t := 47) ?hr ?_; (case hd => rfl); (case hg => rfl); (case hr => first | (go_simp; done) | (go_simp; rfl)); intro gb302 hg w6 hbox hb; have BK302 := aM (hbox); have GW302 := aM ((by rw [hg]; exact (zZ (zH HB.out)) : w.heap.size ≤ gb302)); have GE302 := aM ((by rw [hg]; exact (zZ (zH HB.out)) : w.heap.size ≤ gb302)); replace HB := aM (zT (zH HB.out) hb); have NB301_302 := nL BK301.out hg; have NB302_301 := nR BK301.out hg; replace BK301 := yK BK301.out hb; clear hb hbox hg; have hnb7 := NB301_302.out; have hnc7 := NB302_301.out; have hcz8_0 : w6.cell? ⟨gb301, 0, none⟩ = some (.int .i64 a0_0) := yc BK301.out 0; have hcz8_1 : w6.cell? ⟨gb301, 1, none⟩ = some (.slice A0_1 l0_1.length c0_1) := yc BK301.out 1; have hcz8_2 : w6.cell? ⟨gb301, 2, none⟩ = some (.slice A0_2 l0_2.length c0_2) := yc BK301.out 2; have hfz8_0 := yZ BK301.out 0; have hfz8_1 := yZ BK301.out 1; have hfz8_2 := yZ BK301.out 2) | ((with_reducible refine gate_callee (f := 16) rfl ?_); refine goesL_ (some 18) rfl rfl Try.func16 (by kernel_rfl) rfl #[.agg #[.int .i64 a0_0, .slice A0_1 l0_1.length c0_1, .slice A0_2 l0_2.length c0_2], .int .i64 1048576] rfl (by (try simp only [List.map_toArray, List.map_cons, List.map_nil]); first | done | rfl | (simp only [List.length_drop, List.length_take]; rfl)) ?_; (with_reducible refine (laws_szFree.calls a0_0 _ _ l0_1 _ _ l0_2 1048576 t303 _ ?side1 ?side2 ?side3 ?side4 A3.out).mono ?_); (case side1 => exact cK HR0_1.out HB.out); (case side2 => exact HC0_1.out); (case side3 => exact cK HR0_2.out HB.out); (case side4 => exact HC0_2.out); rintro e w9 ⟨rfl, hb⟩; refine ⟨_, rfl, ?_⟩; replace BK301 := yK BK301.out hb; replace BK302 := yK BK302.out hb; replace HB := aM (zT (zH HB.out) hb); (try clear hb)))
  go_ret
  exact ⟨by first | rfl | (simp [errW_none, errW_some] <;> rfl) | (simp [*, errW_none, errW_some] <;> rfl), zH HB.out⟩
 ·rw [if_neg c4] at H
  have c4b0 : decide (t303 < 0) = false := decide_eq_false c4
  clear c4
  replace H := Option.bind_eq_some_iff.mp H
  obtain ⟨⟨t304, t305, t308⟩, A100, H⟩ := H
  replace H : ((laws_toExtent.f a1_0 a1_1).bind fun bt311 => ((spec_GiveRoom.f k t304 t305 t308 bt311.1 bt311.2).bind fun bt313 => ((laws_toFree.f k a0_0 l0_1 l0_2).bind fun bt322 => ((laws_toExtent.f a1_0 a1_1).bind fun bt330 => ((impl_GiveRoom.f k bt322.1 bt322.2.1 bt322.2.2 bt330.1 bt330.2).bind fun bt332 => ((laws_eqFree.f k bt332.1 bt332.2.1 bt332.2.2.1 bt313.1 bt313.2.1 bt313.2.2.1).bind fun t341 => (if t341 = true then (laws_FnExactGiveRoom.j0 k bt313.2.2.2 bt332.2.2.2 (bt332.2.2.2 != bt313.2.2.2) a0_0 l0_1 l0_2 a1_0 a1_1 bt313.1 bt313.2.1 bt313.2.2.1 bt322.1 bt322.2.1 bt322.2.2 bt332.1 bt332.2.1 bt332.2.2.1) else (laws_FnExactGiveRoom.j0 k bt313.2.2.2 bt332.2.2.2 true a0_0 l0_1 l0_2 a1_0 a1_1 bt313.1 bt313.2.1 bt313.2.2.1 bt322.1 bt322.2.1 bt322.2.2 bt332.1 bt332.2.1 bt332.2.2.1)))))))) = some r := H
  have A10 := aM A100
  clear A100
  replace H := Option.bind_eq_some_iff.mp H
  obtain ⟨⟨t311, t312⟩, A110, H⟩ := H
  replace H : ((spec_GiveRoom.f k t304 t305 t308 t311 t312).bind fun bt313 => ((laws_toFree.f k a0_0 l0_1 l0_2).bind fun bt322 => ((laws_toExtent.f a1_0 a1_1).bind fun bt330 => ((impl_GiveRoom.f k bt322.1 bt322.2.1 bt322.2.2 bt330.1 bt330.2).bind fun bt332 => ((laws_eqFree.f k bt332.1 bt332.2.1 bt332.2.2.1 bt313.1 bt313.2.1 bt313.2.2.1).bind fun t341 => (if t341 = true then (laws_FnExactGiveRoom.j0 k bt313.2.2.2 bt332.2.2.2 (bt332.2.2.2 != bt313.2.2.2) a0_0 l0_1 l0_2 a1_0 a1_1 bt313.1 bt313.2.1 bt313.2.2.1 bt322.1 bt322.2.1 bt322.2.2 bt332.1 bt332.2.1 bt332.2.2.1) else (laws_FnExactGiveRoom.j0 k bt313.2.2.2 bt332.2.2.2 true a0_0 l0_1 l0_2 a1_0 a1_1 bt313.1 bt313.2.1 bt313.2.2.1 bt322.1 bt322.2.1 bt322.2.2 bt332.1 bt332.2.1 bt332.2.2.1))))))) = some r := H
  have A11 := aM A110
  clear A110
  replace H := Option.bind_eq_some_iff.mp H
  obtain ⟨⟨t313, t314, t317, t320⟩, A120, H⟩ := H
  replace H : ((laws_toFree.f k a0_0 l0_1 l0_2).bind fun bt322 => ((laws_toExtent.f a1_0 a1_1).bind fun bt330 => ((impl_GiveRoom.f k bt322.1 bt322.2.1 bt322.2.2 bt330.1 bt330.2).bind fun bt332 => ((laws_eqFree.f k bt332.1 bt332.2.1 bt332.2.2.1 t313 t314 t317).bind fun t341 => (if t341 = true then (laws_FnExactGiveRoom.j0 k t320 bt332.2.2.2 (bt332.2.2.2 != t320) a0_0 l0_1 l0_2 a1_0 a1_1 t313 t314 t317 bt322.1 bt322.2.1 bt322.2.2 bt332.1 bt332.2.1 bt332.2.2.1) else (laws_FnExactGiveRoom.j0 k t320 bt332.2.2.2 true a0_0 l0_1 l0_2 a1_0 a1_1 t313 t314 t317 bt322.1 bt322.2.1 bt322.2.2 bt332.1 bt332.2.1 bt332.2.2.1)))))) = some r := H
  have A12 := aM A120
  clear A120
  replace H := Option.bind_eq_some_iff.mp H
  obtain ⟨⟨t322, t323, t326⟩, A130, H⟩ := H
  replace H : ((laws_toExtent.f a1_0 a1_1).bind fun bt330 => ((impl_GiveRoom.f k t322 t323 t326 bt330.1 bt330.2).bind fun bt332 => ((laws_eqFree.f k bt332.1 bt332.2.1 bt332.2.2.1 t313 t314 t317).bind fun t341 => (if t341 = true then (laws_FnExactGiveRoom.j0 k t320 bt332.2.2.2 (bt332.2.2.2 != t320) a0_0 l0_1 l0_2 a1_0 a1_1 t313 t314 t317 t322 t323 t326 bt332.1 bt332.2.1 bt332.2.2.1) else (laws_FnExactGiveRoom.j0 k t320 bt332.2.2.2 true a0_0 l0_1 l0_2 a1_0 a1_1 t313 t314 t317 t322 t323 t326 bt332.1 bt332.2.1 bt332.2.2.1))))) = some r := H
  have A13 := aM A130
  clear A130
  replace H := Option.bind_eq_some_iff.mp H
  obtain ⟨⟨t330, t331⟩, A140, H⟩ := H
  replace H : ((impl_GiveRoom.f k t322 t323 t326 t330 t331).bind fun bt332 => ((laws_eqFree.f k bt332.1 bt332.2.1 bt332.2.2.1 t313 t314 t317).bind fun t341 => (if t341 = true then (laws_FnExactGiveRoom.j0 k t320 bt332.2.2.2 (bt332.2.2.2 != t320) a0_0 l0_1 l0_2 a1_0 a1_1 t313 t314 t317 t322 t323 t326 bt332.1 bt332.2.1 bt332.2.2.1) else (laws_FnExactGiveRoom.j0 k t320 bt332.2.2.2 true a0_0 l0_1 l0_2 a1_0 a1_1 t313 t314 t317 t322 t323 t326 bt332.1 bt332.2.1 bt332.2.2.1)))) = some r := H
  have A14 := aM A140
  clear A140
  replace H := Option.bind_eq_some_iff.mp H
  obtain ⟨⟨t332, t333, t336, t339⟩, A150, H⟩ := H
  replace H : ((laws_eqFree.f k t332 t333 t336 t313 t314 t317).bind fun t341 => (if t341 = true then (laws_FnExactGiveRoom.j0 k t320 t339 (t339 != t320) a0_0 l0_1 l0_2 a1_0 a1_1 t313 t314 t317 t322 t323 t326 t332 t333 t336) else (laws_FnExactGiveRoom.j0 k t320 t339 true a0_0 l0_1 l0_2 a1_0 a1_1 t313 t314 t317 t322 t323 t326 t332 t333 t336))) = some r := H
  have A15 := aM A150
  clear A150
  have HC16 := aM H
  clear H
  go_enter Try.func8, Try.ntmps8
  try go_wp2_with (first | ((with_reducible refine gate_dst (N := 2) rfl ?_); refine box_event ?hg (N := 2) ?hd (cs := #[.int .i64 a0_0, .slice A0_1 l0_1.length c0_1, .slice A0_2 l0_2.length c0_2]) (t := 32) ?hr ?_; (case hd => rfl); (case hg => rfl); (case hr => first | (go_simp; done) | (go_simp; rfl)); intro gb301 hg w17 hbox hb; have BK301 := aM (hbox); have GW301 := aM ((by rw [hg]; exact (zZ (zH HB.out)) : w.heap.size ≤ gb301)); have GE301 := aM ((by rw [hg]; exact (zZ (zH HB.out)) : w.heap.size ≤ gb301)); replace HB := aM (zT (zH HB.out) hb); clear hb hbox hg) | ((with_reducible refine gate_dst (N := 3) rfl ?_); refine box_event ?hg (N := 3) ?hd (cs := #[.int .i64 a1_0, .int .i64 a1_1]) (t := 47) ?hr ?_; (case hd => rfl); (case hg => rfl); (case hr => first | (go_simp; done) | (go_simp; rfl)); intro gb302 hg w18 hbox hb; have BK302 := aM (hbox); have GW302 := aM ((by rw [hg]; exact (zZ (zH HB.out)) : w.heap.size ≤ gb302)); have GE302 := aM ((by rw [hg]; exact (zZ (zH HB.out)) : w.heap.size ≤ gb302)); replace HB := aM (zT (zH HB.out) hb); have NB301_302 := nL BK301.out hg; have NB302_301 := nR BK301.out hg; replace BK301 := yK BK301.out hb; clear hb hbox hg; have hnb19 := NB301_302.out; have hnc19 := NB302_301.out; have hcz20_0 : w18.cell? ⟨gb301, 0, none⟩ = some (.int .i64 a0_0) := yc BK301.out 0; have hcz20_1 : w18.cell? ⟨gb301, 1, none⟩ = some (.slice A0_1 l0_1.length c0_1) := yc BK301.out 1; have hcz20_2 : w18.cell? ⟨gb301, 2, none⟩ = some (.slice A0_2 l0_2.length c0_2) := yc BK301.out 2; have hfz20_0 := yZ BK301.out 0; have hfz20_1 := yZ BK301.out 1; have hfz20_2 := yZ BK301.out 2) | ((with_reducible refine gate_callee (f := 16) rfl ?_); refine goesL_ (some 18) rfl rfl Try.func16 (by kernel_rfl) rfl #[.agg #[.int .i64 a0_0, .slice A0_1 l0_1.length c0_1, .slice A0_2 l0_2.length c0_2], .int .i64 1048576] rfl (by (try simp only [List.map_toArray, List.map_cons, List.map_nil]); first | done | rfl | (simp only [List.length_drop, List.length_take]; rfl)) ?_; (with_reducible refine (laws_szFree.calls a0_0 _ _ l0_1 _ _ l0_2 1048576 t303 _ ?side1 ?side2 ?side3 ?side4 A3.out).mono ?_); (case side1 => exact cK HR0_1.out HB.out); (case side2 => exact HC0_1.out); (case side3 => exact cK HR0_2.out HB.out); (case side4 => exact HC0_2.out); rintro e w21 ⟨rfl, hb⟩; refine ⟨_, rfl, ?_⟩; replace BK301 := yK BK301.out hb; replace BK302 := yK BK302.out hb; replace HB := aM (zT (zH HB.out) hb); (try clear hb)))
  replace BK301 := aM (yD BK301.out)
  replace BK302 := aM (yD BK302.out)
  replace HB := aM (zD HB.out)
  refine start_ (n := 11) (S := fun w' => w'.cell? ⟨gb301, 0, none⟩ = some (.int .i64 a0_0) ∧ w'.cell? ⟨gb301, 1, none⟩ = some (.slice A0_1 l0_1.length c0_1) ∧ w'.cell? ⟨gb301, 2, none⟩ = some (.slice A0_2 l0_2.length c0_2) ∧ w'.cell? ⟨gb302, 0, none⟩ = some (.int .i64 a1_0) ∧ w'.cell? ⟨gb302, 1, none⟩ = some (.int .i64 a1_1)) (ds := []) #[fF,fF,fF,fF,fF,fF,fF,fF,fF,fF,fF] (by kernel_rfl) rfl rfl ⟨yc BK301.out 0, yc BK301.out 1, yc BK301.out 2, yc BK302.out 0, yc BK302.out 1⟩ (fun hHeld => ?_); refine with_tabW laws_FnExactGiveRoom.tab5 laws_FnExactGiveRoom.bits5 (fun HT_ HW_ => ?_)
  generalize w21.drew = w22 at BK301 BK302 HB hHeld ⊢
  refine take_ (i := 0) (N := some 22) (v := ?_) (a' := ?_) #[tT,fF,fF,fF,fF,fF,fF,fF,fF,fF,fF] rfl rfl (take_ofW HT_.out HW_.out (by kernel_rfl)) (fun _ _ _ h => h) (Or.inl ⟨by rfl, ?_⟩) hHeld ?_ ?_
  rotate_left
  ·rintro w' ⟨s0, s1, s2, s3, s4⟩
   go_simp
   with_reducible rfl
  rotate_left
  ·simp only [Act.put, qA, qB, qC, i64_w, i32_w]
   rfl
  refine take_ (i := 2) (N := some 24) (v := ?_) (a' := ?_) #[tT,fF,tT,fF,fF,fF,fF,fF,fF,fF,fF] rfl rfl (take_ofW HT_.out HW_.out (by kernel_rfl)) (fun _ _ _ h => h) (Or.inl ⟨by rfl, ?_⟩) hHeld ?_ ?_
  rotate_left
  ·rintro w' ⟨s0, s1, s2, s3, s4⟩
   go_simp
   with_reducible rfl
  rotate_left
  ·simp only [Act.put, qA, qB, qC, i64_w, i32_w]
   rfl
  refine join_ (σ := Value × Value × Value × Value × Nat) 2 #[tT,tT,tT,tT,tT,tT,tT,tT,tT,fF,fF] (fun s_ => [(23, .agg #[.int .i64 t304, s_.1, s_.2.1]), (25, .agg #[.int .i64 t311, .int .i64 t312]), (26, .tuple #[.agg #[.int .i64 t313, s_.2.2.1, s_.2.2.2.1], .bool t320]), (6, .pointer (some ⟨s_.2.2.2.2, 0, none⟩)), (21, .tuple #[.agg #[.int .i64 t313, s_.2.2.1, s_.2.2.2.1], .bool t320]), (27, .agg #[.int .i64 t313, s_.2.2.1, s_.2.2.2.1]), (28, .bool t320)]) (fun s_ w' => (w'.cell? ⟨gb301, 0, none⟩ = some (.int .i64 a0_0) ∧ w'.cell? ⟨gb301, 1, none⟩ = some (.slice A0_1 l0_1.length c0_1) ∧ w'.cell? ⟨gb301, 2, none⟩ = some (.slice A0_2 l0_2.length c0_2) ∧ w'.cell? ⟨gb302, 0, none⟩ = some (.int .i64 a1_0) ∧ w'.cell? ⟨gb302, 1, none⟩ = some (.int .i64 a1_1)) ∧ (Kd.R k49 49 w' w.heap.size (fun k_ => some k_ ≠ (s_.2.1 : Value).ownBlock ∧ some k_ ≠ (s_.2.2.1 : Value).ownBlock ∧ some k_ ≠ (s_.2.2.2.1 : Value).ownBlock) s_.1 t305) ∧ (Kd.R k49 49 w' w.heap.size (fun k_ => some k_ ≠ (s_.1 : Value).ownBlock ∧ some k_ ≠ (s_.2.2.1 : Value).ownBlock ∧ some k_ ≠ (s_.2.2.2.1 : Value).ownBlock) s_.2.1 t308) ∧ (Kd.R k49 49 w' w.heap.size (fun k_ => some k_ ≠ (s_.1 : Value).ownBlock ∧ some k_ ≠ (s_.2.1 : Value).ownBlock ∧ some k_ ≠ (s_.2.2.2.1 : Value).ownBlock) s_.2.2.1 t314) ∧ (Kd.R k49 49 w' w.heap.size (fun k_ => some k_ ≠ (s_.1 : Value).ownBlock ∧ some k_ ≠ (s_.2.1 : Value).ownBlock ∧ some k_ ≠ (s_.2.2.1 : Value).ownBlock) s_.2.2.2.1 t317) ∧ (w'.heap[gb301]? = some (.cells #[.int .i64 a0_0, .slice A0_1 l0_1.length c0_1, .slice A0_2 l0_2.length c0_2] 32 (0, 0))) ∧ (w'.heap[gb302]? = some (.cells #[.int .i64 a1_0, .int .i64 a1_1] 47 (0, 0))) ∧ (w'.heap[s_.2.2.2.2]? = some (.cells #[.int .i64 0, .slice none 0 0, .slice none 0 0] 24 (0, 0))) ∧ (w.heap.size ≤ s_.2.2.2.2) ∧ (w.heap.size ≤ s_.2.2.2.2) ∧ (gb301 ≠ s_.2.2.2.2) ∧ (s_.2.2.2.2 ≠ gb301) ∧ (gb302 ≠ s_.2.2.2.2) ∧ (s_.2.2.2.2 ≠ gb302) ∧ (Below w.heap.size w w')) ?_ ?_
  rotate_left
  ·intro hCont
   refine two_ (i := 1) (j := 8) (Ni := some 23) (Nj := some 6) #[tT,tT,tT,fF,fF,fF,fF,fF,fF,fF,fF] #[tT,fF,tT,fF,fF,fF,fF,fF,tT,fF,fF] rfl rfl rfl rfl (two_of HT_.out (by kernel_rfl)) (by decide) (by decide) (fun K hK => ?_) (fun K hK => ?_)
   ·skip
    refine gS Try.func18 (by kernel_rfl) rfl #[.agg #[.int .i64 a0_0, .slice A0_1 l0_1.length c0_1, .slice A0_2 l0_2.length c0_2]] (by rfl) rfl rfl ?_
    with_reducible refine (laws_toFree.calls k a0_0 _ _ l0_1 _ _ l0_2 t304 t305 t308 _ ?side1 ?side2 ?side3 ?side4 A10.out).mono ?_
    (case side1 => exact cK HR0_1.out HB.out)
    (case side2 => exact HC0_1.out)
    (case side3 => exact cK HR0_2.out HB.out)
    (case side4 => exact HC0_2.out)
    rintro e w23 ⟨v306, v309, rfl, ho0, ho1, hb⟩
    refine ⟨_, rfl, ?_⟩
    have HO307 := aM (xL ho0 (zZ (zH HB.out)))
    have HO310 := aM (xL ho1 (zZ (zH HB.out)))
    replace BK301 := yK BK301.out hb
    replace BK302 := yK BK302.out hb
    replace HB := aM (zT (zH HB.out) hb)
    (try clear hb); (try clear ho0); (try clear ho1)
    refine hK.out _ _ ⟨yc BK301.out 0, yc BK301.out 1, yc BK301.out 2, yc BK302.out 0, yc BK302.out 1⟩ (fun hHeld => ?_)
    clear hK K
    refine norm_ (a' := ?_) ?_ ?_
    rotate_left
    ·show Act.put _ (some 23) _ = _
     simp only [Act.put, qA, qB, qC, i64_w, i32_w]
     rfl
    refine two_ (i := 3) (j := 8) (Ni := some 25) (Nj := some 6) #[tT,tT,tT,tT,fF,fF,fF,fF,fF,fF,fF] #[tT,tT,tT,fF,fF,fF,fF,fF,tT,fF,fF] rfl rfl rfl rfl (two_of HT_.out (by kernel_rfl)) (by decide) (by decide) (fun K hK => ?_) (fun K hK => ?_)
    ·skip
     refine gS Try.func30 (by kernel_rfl) rfl #[.agg #[.int .i64 a1_0, .int .i64 a1_1]] (by rfl) rfl rfl ?_
     with_reducible refine (laws_toExtent.calls a1_0 a1_1 t311 t312 _ A11.out).mono ?_
     rintro e w24 ⟨rfl, hb⟩
     refine ⟨_, rfl, ?_⟩
     replace HO307 := xK HO307.out hb
     replace HO310 := xK HO310.out hb
     replace BK301 := yK BK301.out hb
     replace BK302 := yK BK302.out hb
     replace HB := aM (zT (zH HB.out) hb)
     (try clear hb)
     obtain ⟨Ao25, co25, eo25⟩ := Kd.R_slice HO307.out
     (first | subst eo25 | obtain ⟨rfl, rfl⟩ := eI eo25)
     obtain ⟨Ao26, co26, eo26⟩ := Kd.R_slice HO310.out
     (first | subst eo26 | obtain ⟨rfl, rfl⟩ := eI eo26)
     refine hK.out _ _ ⟨yc BK301.out 0, yc BK301.out 1, yc BK301.out 2, yc BK302.out 0, yc BK302.out 1⟩ (fun hHeld => ?_)
     clear hK K
     refine norm_ (a' := ?_) ?_ ?_
     rotate_left
     ·show Act.put _ (some 25) _ = _
      simp only [Act.put, qA, qB, qC, i64_w, i32_w]
      rfl
     refine two_ (i := 4) (j := 8) (Ni := some 26) (Nj := some 6) #[tT,tT,tT,tT,tT,fF,fF,fF,fF,fF,fF] #[tT,tT,tT,tT,fF,fF,fF,fF,tT,fF,fF] rfl rfl rfl rfl (two_of HT_.out (by kernel_rfl)) (by decide) (by decide) (fun K hK => ?_) (fun K hK => ?_)
     ·skip
      refine gS Try.func29 (by kernel_rfl) rfl #[.agg #[.int .i64 t304, .slice Ao25 t305.length co25, .slice Ao26 t308.length co26], .agg #[.int .i64 t311, .int .i64 t312]] (by rfl) rfl rfl ?_
      with_reducible refine (spec_GiveRoom.calls k t304 _ _ t305 _ _ t308 t311 t312 t313 t314 t317 t320 _ ?side1 ?side2 ?side3 ?side4 A12.out).mono ?_
      (case side1 => repeat (first | exact (Kd.R_reads' HO307.out).2.2 | (with_reducible refine cA ?_ _) | (with_reducible refine cN ?_ _) | (with_reducible refine cD ?_)))
      (case side2 => exact (Kd.R_reads' HO307.out).2.1)
      (case side3 => repeat (first | exact (Kd.R_reads' HO310.out).2.2 | (with_reducible refine cA ?_ _) | (with_reducible refine cN ?_ _) | (with_reducible refine cD ?_)))
      (case side4 => exact (Kd.R_reads' HO310.out).2.1)
      rintro e w27 ⟨v315, v318, rfl, ho0, ho1, hb⟩
      refine ⟨_, rfl, ?_⟩
      have HO316 := aM (xL (Kd.R_new' (Kd.R_new' ho0 (Kd.R_lt (xH HO307.out))) (Kd.R_lt (xH HO310.out))) (zZ (zH HB.out)))
      have HO319 := aM (xL (Kd.R_new' (Kd.R_new' ho1 (Kd.R_lt (xH HO307.out))) (Kd.R_lt (xH HO310.out))) (zZ (zH HB.out)))
      replace HO307 := aM (xM (Kd.R_told (Kd.R_told (Kd.R_old (xH HO307.out) hb) (Kd.R_base ho0)) (Kd.R_base ho1)) (fun _ h_ => h_.1))
      replace HO310 := aM (xM (Kd.R_told (Kd.R_told (Kd.R_old (xH HO310.out) hb) (Kd.R_base ho0)) (Kd.R_base ho1)) (fun _ h_ => h_.1))
      replace BK301 := yK BK301.out hb
      replace BK302 := yK BK302.out hb
      replace HB := aM (zT (zH HB.out) hb)
      (try clear hb); (try clear ho0); (try clear ho1)
      refine hK.out _ _ ⟨yc BK301.out 0, yc BK301.out 1, yc BK301.out 2, yc BK302.out 0, yc BK302.out 1⟩ (fun hHeld => ?_)
      clear hK K
      refine norm_ (a' := ?_) ?_ ?_
      rotate_left
      ·show Act.put _ (some 26) _ = _
       simp only [Act.put, qA, qB, qC, i64_w, i32_w]
       rfl
      refine pure_ (i := 5) (N := some 21) (v := ?_) (a' := ?_) #[tT,tT,tT,tT,tT,tT,fF,fF,fF,fF,fF] rfl rfl (any_of HT_.out (by kernel_rfl)) (fun _ _ _ h => h) (Or.inl ⟨by rfl, ?_⟩) ?_ ?_
      rotate_left
      ·intro w'
       go_simp
       with_reducible rfl
      rotate_left
      ·simp only [Act.put, qA, qB, qC, i64_w, i32_w]
       rfl
      refine pure_ (i := 6) (N := some 27) (v := ?_) (a' := ?_) #[tT,tT,tT,tT,tT,tT,tT,fF,fF,fF,fF] rfl rfl (any_of HT_.out (by kernel_rfl)) (fun _ _ _ h => h) (Or.inl ⟨by rfl, ?_⟩) ?_ ?_
      rotate_left
      ·intro w'
       go_simp
       with_reducible rfl
      rotate_left
      ·simp only [Act.put, qA, qB, qC, i64_w, i32_w]
       rfl
      refine pure_ (i := 7) (N := some 28) (v := ?_) (a' := ?_) #[tT,tT,tT,tT,tT,tT,tT,tT,fF,fF,fF] rfl rfl (any_of HT_.out (by kernel_rfl)) (fun _ _ _ h => h) (Or.inl ⟨by rfl, ?_⟩) ?_ ?_
      rotate_left
      ·intro w'
       go_simp
       with_reducible rfl
      rotate_left
      ·simp only [Act.put, qA, qB, qC, i64_w, i32_w]
       rfl
      refine one_ (i := 8) (N := some 6) #[tT,tT,tT,tT,tT,tT,tT,tT,tT,fF,fF] rfl rfl (one_of HT_.out (by kernel_rfl)) (by decide) (fun K hK => ?_)
      refine box_step ?hg (N := 6) ?hd (cs := #[.int .i64 0, .slice none 0 0, .slice none 0 0]) (t := 24) ?hr ?_; (case hd => rfl); (case hg => rfl); (case hr => first | (go_simp; done) | (go_simp; rfl))
      intro gb321 hg w28 hbox hb
      replace HO307 := xK HO307.out hb
      replace HO310 := xK HO310.out hb
      replace HO316 := xK HO316.out hb
      replace HO319 := xK HO319.out hb
      have BK321 := aM (hbox)
      have GW321 := aM ((by rw [hg]; exact (zZ (zH HB.out)) : w.heap.size ≤ gb321))
      have GE321 := aM ((by rw [hg]; exact (zZ (zH HB.out)) : w.heap.size ≤ gb321))
      replace HB := aM (zT (zH HB.out) hb)
      have NB301_321 := nL BK301.out hg
      have NB321_301 := nR BK301.out hg
      replace BK301 := yK BK301.out hb
      have NB302_321 := nL BK302.out hg
      have NB321_302 := nR BK302.out hg
      replace BK302 := yK BK302.out hb
      clear hb hbox hg
      refine hK.out _ _ ⟨yc BK301.out 0, yc BK301.out 1, yc BK301.out 2, yc BK302.out 0, yc BK302.out 1⟩ (fun hHeld => ?_)
      clear hK K
      refine norm_ (a' := ?_) ?_ ?_
      rotate_left
      ·show Act.put _ (some 6) _ = _
       simp only [Act.put, qA, qB, qC, i64_w, i32_w]
       rfl
      exact norm_ (by simp only [putAll, Act.put, qA, qB, qC]) (hCont (.slice Ao25 t305.length co25, .slice Ao26 t308.length co26, v315, v318, gb321) _ ⟨hHeld, (xH (xM HO307.out (fun _ hk => ⟨hk.1.1, ⟨hk.1.2, hk.2⟩⟩))), (xH (xM HO310.out (fun _ hk => ⟨hk.1.1, ⟨hk.1.2, hk.2⟩⟩))), (xH (xM HO316.out (fun _ hk => ⟨hk.1.2, ⟨hk.2, hk.1.1⟩⟩))), (xH (xM HO319.out (fun _ hk => ⟨hk.1.2, ⟨hk.2, hk.1.1⟩⟩))), (yH BK301.out), (yH BK302.out), (yH BK321.out), GW321.out, GE321.out, NB301_321.out, NB321_301.out, NB302_321.out, NB321_302.out, (zH HB.out)⟩)
     ·skip
      refine box_step ?hg (N := 6) ?hd (cs := #[.int .i64 0, .slice none 0 0, .slice none 0 0]) (t := 24) ?hr ?_; (case hd => rfl); (case hg => rfl); (case hr => first | (go_simp; done) | (go_simp; rfl))
      intro gb321 hg w25 hbox hb
      replace HO307 := xK HO307.out hb
      replace HO310 := xK HO310.out hb
      have BK321 := aM (hbox)
      have GW321 := aM ((by rw [hg]; exact (zZ (zH HB.out)) : w.heap.size ≤ gb321))
      have GE321 := aM ((by rw [hg]; exact (zZ (zH HB.out)) : w.heap.size ≤ gb321))
      replace HB := aM (zT (zH HB.out) hb)
      have NB301_321 := nL BK301.out hg
      have NB321_301 := nR BK301.out hg
      replace BK301 := yK BK301.out hb
      have NB302_321 := nL BK302.out hg
      have NB321_302 := nR BK302.out hg
      replace BK302 := yK BK302.out hb
      clear hb hbox hg
      obtain ⟨Ao26, co26, eo26⟩ := Kd.R_slice HO307.out
      (first | subst eo26 | obtain ⟨rfl, rfl⟩ := eI eo26)
      obtain ⟨Ao27, co27, eo27⟩ := Kd.R_slice HO310.out
      (first | subst eo27 | obtain ⟨rfl, rfl⟩ := eI eo27)
      refine hK.out _ _ ⟨yc BK301.out 0, yc BK301.out 1, yc BK301.out 2, yc BK302.out 0, yc BK302.out 1⟩ (fun hHeld => ?_)
      clear hK K
      refine norm_ (a' := ?_) ?_ ?_
      rotate_left
      ·show Act.put _ (some 6) _ = _
       simp only [Act.put, qA, qB, qC, i64_w, i32_w]
       rfl
      refine one_ (i := 4) (N := some 26) #[tT,tT,tT,tT,tT,fF,fF,fF,tT,fF,fF] rfl rfl (one_of HT_.out (by kernel_rfl)) (by decide) (fun K hK => ?_)
      refine gS Try.func29 (by kernel_rfl) rfl #[.agg #[.int .i64 t304, .slice Ao26 t305.length co26, .slice Ao27 t308.length co27], .agg #[.int .i64 t311, .int .i64 t312]] (by rfl) rfl rfl ?_
      with_reducible refine (spec_GiveRoom.calls k t304 _ _ t305 _ _ t308 t311 t312 t313 t314 t317 t320 _ ?side1 ?side2 ?side3 ?side4 A12.out).mono ?_
      (case side1 => repeat (first | exact (Kd.R_reads' HO307.out).2.2 | (with_reducible refine cA ?_ _) | (with_reducible refine cN ?_ _) | (with_reducible refine cD ?_)))
      (case side2 => exact (Kd.R_reads' HO307.out).2.1)
      (case side3 => repeat (first | exact (Kd.R_reads' HO310.out).2.2 | (with_reducible refine cA ?_ _) | (with_reducible refine cN ?_ _) | (with_reducible refine cD ?_)))
      (case side4 => exact (Kd.R_reads' HO310.out).2.1)
      rintro e w28 ⟨v315, v318, rfl, ho0, ho1, hb⟩
      refine ⟨_, rfl, ?_⟩
      have HO316 := aM (xL (Kd.R_new' (Kd.R_new' ho0 (Kd.R_lt (xH HO307.out))) (Kd.R_lt (xH HO310.out))) (zZ (zH HB.out)))
      have HO319 := aM (xL (Kd.R_new' (Kd.R_new' ho1 (Kd.R_lt (xH HO307.out))) (Kd.R_lt (xH HO310.out))) (zZ (zH HB.out)))
      replace HO307 := aM (xM (Kd.R_told (Kd.R_told (Kd.R_old (xH HO307.out) hb) (Kd.R_base ho0)) (Kd.R_base ho1)) (fun _ h_ => h_.1))
      replace HO310 := aM (xM (Kd.R_told (Kd.R_told (Kd.R_old (xH HO310.out) hb) (Kd.R_base ho0)) (Kd.R_base ho1)) (fun _ h_ => h_.1))
      replace BK301 := yK BK301.out hb
      replace BK302 := yK BK302.out hb
      replace BK321 := yK BK321.out hb
      replace HB := aM (zT (zH HB.out) hb)
      (try clear hb); (try clear ho0); (try clear ho1)
      refine hK.out _ _ ⟨yc BK301.out 0, yc BK301.out 1, yc BK301.out 2, yc BK302.out 0, yc BK302.out 1⟩ (fun hHeld => ?_)
      clear hK K
      refine norm_ (a' := ?_) ?_ ?_
      rotate_left
      ·show Act.put _ (some 26) _ = _
       simp only [Act.put, qA, qB, qC, i64_w, i32_w]
       rfl
      refine pure_ (i := 5) (N := some 21) (v := ?_) (a' := ?_) #[tT,tT,tT,tT,tT,tT,fF,fF,tT,fF,fF] rfl rfl (any_of HT_.out (by kernel_rfl)) (fun _ _ _ h => h) (Or.inl ⟨by rfl, ?_⟩) ?_ ?_
      rotate_left
      ·intro w'
       go_simp
       with_reducible rfl
      rotate_left
      ·simp only [Act.put, qA, qB, qC, i64_w, i32_w]
       rfl
      refine pure_ (i := 6) (N := some 27) (v := ?_) (a' := ?_) #[tT,tT,tT,tT,tT,tT,tT,fF,tT,fF,fF] rfl rfl (any_of HT_.out (by kernel_rfl)) (fun _ _ _ h => h) (Or.inl ⟨by rfl, ?_⟩) ?_ ?_
      rotate_left
      ·intro w'
       go_simp
       with_reducible rfl
      rotate_left
      ·simp only [Act.put, qA, qB, qC, i64_w, i32_w]
       rfl
      refine pure_ (i := 7) (N := some 28) (v := ?_) (a' := ?_) #[tT,tT,tT,tT,tT,tT,tT,tT,tT,fF,fF] rfl rfl (any_of HT_.out (by kernel_rfl)) (fun _ _ _ h => h) (Or.inl ⟨by rfl, ?_⟩) ?_ ?_
      rotate_left
      ·intro w'
       go_simp
       with_reducible rfl
      rotate_left
      ·simp only [Act.put, qA, qB, qC, i64_w, i32_w]
       rfl
      exact norm_ (by simp only [putAll, Act.put, qA, qB, qC]) (hCont (.slice Ao26 t305.length co26, .slice Ao27 t308.length co27, v315, v318, gb321) _ ⟨hHeld, (xH (xM HO307.out (fun _ hk => ⟨hk.1.1, ⟨hk.1.2, hk.2⟩⟩))), (xH (xM HO310.out (fun _ hk => ⟨hk.1.1, ⟨hk.1.2, hk.2⟩⟩))), (xH (xM HO316.out (fun _ hk => ⟨hk.1.2, ⟨hk.2, hk.1.1⟩⟩))), (xH (xM HO319.out (fun _ hk => ⟨hk.1.2, ⟨hk.2, hk.1.1⟩⟩))), (yH BK301.out), (yH BK302.out), (yH BK321.out), GW321.out, GE321.out, NB301_321.out, NB321_301.out, NB302_321.out, NB321_302.out, (zH HB.out)⟩)
    ·skip
     refine box_step ?hg (N := 6) ?hd (cs := #[.int .i64 0, .slice none 0 0, .slice none 0 0]) (t := 24) ?hr ?_; (case hd => rfl); (case hg => rfl); (case hr => first | (go_simp; done) | (go_simp; rfl))
     intro gb321 hg w24 hbox hb
     replace HO307 := xK HO307.out hb
     replace HO310 := xK HO310.out hb
     have BK321 := aM (hbox)
     have GW321 := aM ((by rw [hg]; exact (zZ (zH HB.out)) : w.heap.size ≤ gb321))
     have GE321 := aM ((by rw [hg]; exact (zZ (zH HB.out)) : w.heap.size ≤ gb321))
     replace HB := aM (zT (zH HB.out) hb)
     have NB301_321 := nL BK301.out hg
     have NB321_301 := nR BK301.out hg
     replace BK301 := yK BK301.out hb
     have NB302_321 := nL BK302.out hg
     have NB321_302 := nR BK302.out hg
     replace BK302 := yK BK302.out hb
     clear hb hbox hg
     refine hK.out _ _ ⟨yc BK301.out 0, yc BK301.out 1, yc BK301.out 2, yc BK302.out 0, yc BK302.out 1⟩ (fun hHeld => ?_)
     clear hK K
     refine norm_ (a' := ?_) ?_ ?_
     rotate_left
     ·show Act.put _ (some 6) _ = _
      simp only [Act.put, qA, qB, qC, i64_w, i32_w]
      rfl
     refine one_ (i := 3) (N := some 25) #[tT,tT,tT,tT,fF,fF,fF,fF,tT,fF,fF] rfl rfl (one_of HT_.out (by kernel_rfl)) (by decide) (fun K hK => ?_)
     refine gS Try.func30 (by kernel_rfl) rfl #[.agg #[.int .i64 a1_0, .int .i64 a1_1]] (by rfl) rfl rfl ?_
     with_reducible refine (laws_toExtent.calls a1_0 a1_1 t311 t312 _ A11.out).mono ?_
     rintro e w25 ⟨rfl, hb⟩
     refine ⟨_, rfl, ?_⟩
     replace HO307 := xK HO307.out hb
     replace HO310 := xK HO310.out hb
     replace BK301 := yK BK301.out hb
     replace BK302 := yK BK302.out hb
     replace BK321 := yK BK321.out hb
     replace HB := aM (zT (zH HB.out) hb)
     (try clear hb)
     obtain ⟨Ao26, co26, eo26⟩ := Kd.R_slice HO307.out
     (first | subst eo26 | obtain ⟨rfl, rfl⟩ := eI eo26)
     obtain ⟨Ao27, co27, eo27⟩ := Kd.R_slice HO310.out
     (first | subst eo27 | obtain ⟨rfl, rfl⟩ := eI eo27)
     refine hK.out _ _ ⟨yc BK301.out 0, yc BK301.out 1, yc BK301.out 2, yc BK302.out 0, yc BK302.out 1⟩ (fun hHeld => ?_)
     clear hK K
     refine norm_ (a' := ?_) ?_ ?_
     rotate_left
     ·show Act.put _ (some 25) _ = _
      simp only [Act.put, qA, qB, qC, i64_w, i32_w]
      rfl
     refine one_ (i := 4) (N := some 26) #[tT,tT,tT,tT,tT,fF,fF,fF,tT,fF,fF] rfl rfl (one_of HT_.out (by kernel_rfl)) (by decide) (fun K hK => ?_)
     refine gS Try.func29 (by kernel_rfl) rfl #[.agg #[.int .i64 t304, .slice Ao26 t305.length co26, .slice Ao27 t308.length co27], .agg #[.int .i64 t311, .int .i64 t312]] (by rfl) rfl rfl ?_
     with_reducible refine (spec_GiveRoom.calls k t304 _ _ t305 _ _ t308 t311 t312 t313 t314 t317 t320 _ ?side1 ?side2 ?side3 ?side4 A12.out).mono ?_
     (case side1 => repeat (first | exact (Kd.R_reads' HO307.out).2.2 | (with_reducible refine cA ?_ _) | (with_reducible refine cN ?_ _) | (with_reducible refine cD ?_)))
     (case side2 => exact (Kd.R_reads' HO307.out).2.1)
     (case side3 => repeat (first | exact (Kd.R_reads' HO310.out).2.2 | (with_reducible refine cA ?_ _) | (with_reducible refine cN ?_ _) | (with_reducible refine cD ?_)))
     (case side4 => exact (Kd.R_reads' HO310.out).2.1)
     rintro e w28 ⟨v315, v318, rfl, ho0, ho1, hb⟩
     refine ⟨_, rfl, ?_⟩
     have HO316 := aM (xL (Kd.R_new' (Kd.R_new' ho0 (Kd.R_lt (xH HO307.out))) (Kd.R_lt (xH HO310.out))) (zZ (zH HB.out)))
     have HO319 := aM (xL (Kd.R_new' (Kd.R_new' ho1 (Kd.R_lt (xH HO307.out))) (Kd.R_lt (xH HO310.out))) (zZ (zH HB.out)))
     replace HO307 := aM (xM (Kd.R_told (Kd.R_told (Kd.R_old (xH HO307.out) hb) (Kd.R_base ho0)) (Kd.R_base ho1)) (fun _ h_ => h_.1))
     replace HO310 := aM (xM (Kd.R_told (Kd.R_told (Kd.R_old (xH HO310.out) hb) (Kd.R_base ho0)) (Kd.R_base ho1)) (fun _ h_ => h_.1))
     replace BK301 := yK BK301.out hb
     replace BK302 := yK BK302.out hb
     replace BK321 := yK BK321.out hb
     replace HB := aM (zT (zH HB.out) hb)
     (try clear hb); (try clear ho0); (try clear ho1)
     refine hK.out _ _ ⟨yc BK301.out 0, yc BK301.out 1, yc BK301.out 2, yc BK302.out 0, yc BK302.out 1⟩ (fun hHeld => ?_)
     clear hK K
     refine norm_ (a' := ?_) ?_ ?_
     rotate_left
     ·show Act.put _ (some 26) _ = _
      simp only [Act.put, qA, qB, qC, i64_w, i32_w]
      rfl
     refine pure_ (i := 5) (N := some 21) (v := ?_) (a' := ?_) #[tT,tT,tT,tT,tT,tT,fF,fF,tT,fF,fF] rfl rfl (any_of HT_.out (by kernel_rfl)) (fun _ _ _ h => h) (Or.inl ⟨by rfl, ?_⟩) ?_ ?_
     rotate_left
     ·intro w'
      go_simp
      with_reducible rfl
     rotate_left
     ·simp only [Act.put, qA, qB, qC, i64_w, i32_w]
      rfl
     refine pure_ (i := 6) (N := some 27) (v := ?_) (a' := ?_) #[tT,tT,tT,tT,tT,tT,tT,fF,tT,fF,fF] rfl rfl (any_of HT_.out (by kernel_rfl)) (fun _ _ _ h => h) (Or.inl ⟨by rfl, ?_⟩) ?_ ?_
     rotate_left
     ·intro w'
      go_simp
      with_reducible rfl
     rotate_left
     ·simp only [Act.put, qA, qB, qC, i64_w, i32_w]
      rfl
     refine pure_ (i := 7) (N := some 28) (v := ?_) (a' := ?_) #[tT,tT,tT,tT,tT,tT,tT,tT,tT,fF,fF] rfl rfl (any_of HT_.out (by kernel_rfl)) (fun _ _ _ h => h) (Or.inl ⟨by rfl, ?_⟩) ?_ ?_
     rotate_left
     ·intro w'
      go_simp
      with_reducible rfl
     rotate_left
     ·simp only [Act.put, qA, qB, qC, i64_w, i32_w]
      rfl
     exact norm_ (by simp only [putAll, Act.put, qA, qB, qC]) (hCont (.slice Ao26 t305.length co26, .slice Ao27 t308.length co27, v315, v318, gb321) _ ⟨hHeld, (xH (xM HO307.out (fun _ hk => ⟨hk.1.1, ⟨hk.1.2, hk.2⟩⟩))), (xH (xM HO310.out (fun _ hk => ⟨hk.1.1, ⟨hk.1.2, hk.2⟩⟩))), (xH (xM HO316.out (fun _ hk => ⟨hk.1.2, ⟨hk.2, hk.1.1⟩⟩))), (xH (xM HO319.out (fun _ hk => ⟨hk.1.2, ⟨hk.2, hk.1.1⟩⟩))), (yH BK301.out), (yH BK302.out), (yH BK321.out), GW321.out, GE321.out, NB301_321.out, NB321_301.out, NB302_321.out, NB321_302.out, (zH HB.out)⟩)
   ·skip
    refine box_step ?hg (N := 6) ?hd (cs := #[.int .i64 0, .slice none 0 0, .slice none 0 0]) (t := 24) ?hr ?_; (case hd => rfl); (case hg => rfl); (case hr => first | (go_simp; done) | (go_simp; rfl))
    intro gb321 hg w23 hbox hb
    have BK321 := aM (hbox)
    have GW321 := aM ((by rw [hg]; exact (zZ (zH HB.out)) : w.heap.size ≤ gb321))
    have GE321 := aM ((by rw [hg]; exact (zZ (zH HB.out)) : w.heap.size ≤ gb321))
    replace HB := aM (zT (zH HB.out) hb)
    have NB301_321 := nL BK301.out hg
    have NB321_301 := nR BK301.out hg
    replace BK301 := yK BK301.out hb
    have NB302_321 := nL BK302.out hg
    have NB321_302 := nR BK302.out hg
    replace BK302 := yK BK302.out hb
    clear hb hbox hg
    refine hK.out _ _ ⟨yc BK301.out 0, yc BK301.out 1, yc BK301.out 2, yc BK302.out 0, yc BK302.out 1⟩ (fun hHeld => ?_)
    clear hK K
    refine norm_ (a' := ?_) ?_ ?_
    rotate_left
    ·show Act.put _ (some 6) _ = _
     simp only [Act.put, qA, qB, qC, i64_w, i32_w]
     rfl
    refine one_ (i := 1) (N := some 23) #[tT,tT,tT,fF,fF,fF,fF,fF,tT,fF,fF] rfl rfl (one_of HT_.out (by kernel_rfl)) (by decide) (fun K hK => ?_)
    refine gS Try.func18 (by kernel_rfl) rfl #[.agg #[.int .i64 a0_0, .slice A0_1 l0_1.length c0_1, .slice A0_2 l0_2.length c0_2]] (by rfl) rfl rfl ?_
    with_reducible refine (laws_toFree.calls k a0_0 _ _ l0_1 _ _ l0_2 t304 t305 t308 _ ?side1 ?side2 ?side3 ?side4 A10.out).mono ?_
    (case side1 => exact cK HR0_1.out HB.out)
    (case side2 => exact HC0_1.out)
    (case side3 => exact cK HR0_2.out HB.out)
    (case side4 => exact HC0_2.out)
    rintro e w24 ⟨v306, v309, rfl, ho0, ho1, hb⟩
    refine ⟨_, rfl, ?_⟩
    have HO307 := aM (xL ho0 (zZ (zH HB.out)))
    have HO310 := aM (xL ho1 (zZ (zH HB.out)))
    replace BK301 := yK BK301.out hb
    replace BK302 := yK BK302.out hb
    replace BK321 := yK BK321.out hb
    replace HB := aM (zT (zH HB.out) hb)
    (try clear hb); (try clear ho0); (try clear ho1)
    refine hK.out _ _ ⟨yc BK301.out 0, yc BK301.out 1, yc BK301.out 2, yc BK302.out 0, yc BK302.out 1⟩ (fun hHeld => ?_)
    clear hK K
    refine norm_ (a' := ?_) ?_ ?_
    rotate_left
    ·show Act.put _ (some 23) _ = _
     simp only [Act.put, qA, qB, qC, i64_w, i32_w]
     rfl
    refine one_ (i := 3) (N := some 25) #[tT,tT,tT,tT,fF,fF,fF,fF,tT,fF,fF] rfl rfl (one_of HT_.out (by kernel_rfl)) (by decide) (fun K hK => ?_)
    refine gS Try.func30 (by kernel_rfl) rfl #[.agg #[.int .i64 a1_0, .int .i64 a1_1]] (by rfl) rfl rfl ?_
    with_reducible refine (laws_toExtent.calls a1_0 a1_1 t311 t312 _ A11.out).mono ?_
    rintro e w25 ⟨rfl, hb⟩
    refine ⟨_, rfl, ?_⟩
    replace HO307 := xK HO307.out hb
    replace HO310 := xK HO310.out hb
    replace BK301 := yK BK301.out hb
    replace BK302 := yK BK302.out hb
    replace BK321 := yK BK321.out hb
    replace HB := aM (zT (zH HB.out) hb)
    (try clear hb)
    obtain ⟨Ao26, co26, eo26⟩ := Kd.R_slice HO307.out
    (first | subst eo26 | obtain ⟨rfl, rfl⟩ := eI eo26)
    obtain ⟨Ao27, co27, eo27⟩ := Kd.R_slice HO310.out
    (first | subst eo27 | obtain ⟨rfl, rfl⟩ := eI eo27)
    refine hK.out _ _ ⟨yc BK301.out 0, yc BK301.out 1, yc BK301.out 2, yc BK302.out 0, yc BK302.out 1⟩ (fun hHeld => ?_)
    clear hK K
    refine norm_ (a' := ?_) ?_ ?_
    rotate_left
    ·show Act.put _ (some 25) _ = _
     simp only [Act.put, qA, qB, qC, i64_w, i32_w]
     rfl
    refine one_ (i := 4) (N := some 26) #[tT,tT,tT,tT,tT,fF,fF,fF,tT,fF,fF] rfl rfl (one_of HT_.out (by kernel_rfl)) (by decide) (fun K hK => ?_)
    refine gS Try.func29 (by kernel_rfl) rfl #[.agg #[.int .i64 t304, .slice Ao26 t305.length co26, .slice Ao27 t308.length co27], .agg #[.int .i64 t311, .int .i64 t312]] (by rfl) rfl rfl ?_
    with_reducible refine (spec_GiveRoom.calls k t304 _ _ t305 _ _ t308 t311 t312 t313 t314 t317 t320 _ ?side1 ?side2 ?side3 ?side4 A12.out).mono ?_
    (case side1 => repeat (first | exact (Kd.R_reads' HO307.out).2.2 | (with_reducible refine cA ?_ _) | (with_reducible refine cN ?_ _) | (with_reducible refine cD ?_)))
    (case side2 => exact (Kd.R_reads' HO307.out).2.1)
    (case side3 => repeat (first | exact (Kd.R_reads' HO310.out).2.2 | (with_reducible refine cA ?_ _) | (with_reducible refine cN ?_ _) | (with_reducible refine cD ?_)))
    (case side4 => exact (Kd.R_reads' HO310.out).2.1)
    rintro e w28 ⟨v315, v318, rfl, ho0, ho1, hb⟩
    refine ⟨_, rfl, ?_⟩
    have HO316 := aM (xL (Kd.R_new' (Kd.R_new' ho0 (Kd.R_lt (xH HO307.out))) (Kd.R_lt (xH HO310.out))) (zZ (zH HB.out)))
    have HO319 := aM (xL (Kd.R_new' (Kd.R_new' ho1 (Kd.R_lt (xH HO307.out))) (Kd.R_lt (xH HO310.out))) (zZ (zH HB.out)))
    replace HO307 := aM (xM (Kd.R_told (Kd.R_told (Kd.R_old (xH HO307.out) hb) (Kd.R_base ho0)) (Kd.R_base ho1)) (fun _ h_ => h_.1))
    replace HO310 := aM (xM (Kd.R_told (Kd.R_told (Kd.R_old (xH HO310.out) hb) (Kd.R_base ho0)) (Kd.R_base ho1)) (fun _ h_ => h_.1))
    replace BK301 := yK BK301.out hb
    replace BK302 := yK BK302.out hb
    replace BK321 := yK BK321.out hb
    replace HB := aM (zT (zH HB.out) hb)
    (try clear hb); (try clear ho0); (try clear ho1)
    refine hK.out _ _ ⟨yc BK301.out 0, yc BK301.out 1, yc BK301.out 2, yc BK302.out 0, yc BK302.out 1⟩ (fun hHeld => ?_)
    clear hK K
    refine norm_ (a' := ?_) ?_ ?_
    rotate_left
    ·show Act.put _ (some 26) _ = _
     simp only [Act.put, qA, qB, qC, i64_w, i32_w]
     rfl
    refine pure_ (i := 5) (N := some 21) (v := ?_) (a' := ?_) #[tT,tT,tT,tT,tT,tT,fF,fF,tT,fF,fF] rfl rfl (any_of HT_.out (by kernel_rfl)) (fun _ _ _ h => h) (Or.inl ⟨by rfl, ?_⟩) ?_ ?_
    rotate_left
    ·intro w'
     go_simp
     with_reducible rfl
    rotate_left
    ·simp only [Act.put, qA, qB, qC, i64_w, i32_w]
     rfl
    refine pure_ (i := 6) (N := some 27) (v := ?_) (a' := ?_) #[tT,tT,tT,tT,tT,tT,tT,fF,tT,fF,fF] rfl rfl (any_of HT_.out (by kernel_rfl)) (fun _ _ _ h => h) (Or.inl ⟨by rfl, ?_⟩) ?_ ?_
    rotate_left
    ·intro w'
     go_simp
     with_reducible rfl
    rotate_left
    ·simp only [Act.put, qA, qB, qC, i64_w, i32_w]
     rfl
    refine pure_ (i := 7) (N := some 28) (v := ?_) (a' := ?_) #[tT,tT,tT,tT,tT,tT,tT,tT,tT,fF,fF] rfl rfl (any_of HT_.out (by kernel_rfl)) (fun _ _ _ h => h) (Or.inl ⟨by rfl, ?_⟩) ?_ ?_
    rotate_left
    ·intro w'
     go_simp
     with_reducible rfl
    rotate_left
    ·simp only [Act.put, qA, qB, qC, i64_w, i32_w]
     rfl
    exact norm_ (by simp only [putAll, Act.put, qA, qB, qC]) (hCont (.slice Ao26 t305.length co26, .slice Ao27 t308.length co27, v315, v318, gb321) _ ⟨hHeld, (xH (xM HO307.out (fun _ hk => ⟨hk.1.1, ⟨hk.1.2, hk.2⟩⟩))), (xH (xM HO310.out (fun _ hk => ⟨hk.1.1, ⟨hk.1.2, hk.2⟩⟩))), (xH (xM HO316.out (fun _ hk => ⟨hk.1.2, ⟨hk.2, hk.1.1⟩⟩))), (xH (xM HO319.out (fun _ hk => ⟨hk.1.2, ⟨hk.2, hk.1.1⟩⟩))), (yH BK301.out), (yH BK302.out), (yH BK321.out), GW321.out, GE321.out, NB301_321.out, NB321_301.out, NB302_321.out, NB321_302.out, (zH HB.out)⟩)
  rintro ⟨v306, v309, v315, v318, gb321⟩ w29 ⟨hS_, h0_, h1_, h2_, h3_, h4_, h5_, h6_, h7_, h8_, h9_, h10_, h11_, h12_, h13_⟩
  (try dsimp only at h0_ h1_ h2_ h3_ h4_ h5_ h6_ h7_ h8_ h9_ h10_ h11_ h12_ h13_)
  have n0_ := aM h0_
  have n1_ := aM h1_
  have n2_ := aM h2_
  have n3_ := aM h3_
  have n4_ := aM h4_
  have n5_ := aM h5_
  have n6_ := aM h6_
  have n7_ := aM h7_
  have n8_ := aM h8_
  have n9_ := aM h9_
  have n10_ := aM h10_
  have n11_ := aM h11_
  have n12_ := aM h12_
  have n13_ := aM h13_
  clear BK301 BK302 HB h0_ h1_ h2_ h3_ h4_ h5_ h6_ h7_ h8_ h9_ h10_ h11_ h12_ h13_
  have HO307 := n0_
  have HO310 := n1_
  have HO316 := n2_
  have HO319 := n3_
  have BK301 := n4_
  have BK302 := n5_
  have BK321 := n6_
  have GW321 := n7_
  have GE321 := n8_
  have NB301_321 := n9_
  have NB321_301 := n10_
  have NB302_321 := n11_
  have NB321_302 := n12_
  have HB := n13_
  clear n0_ n1_ n2_ n3_ n4_ n5_ n6_ n7_ n8_ n9_ n10_ n11_ n12_ n13_
  have hHeld : w29.cell? ⟨gb301, 0, none⟩ = some (.int .i64 a0_0) ∧ w29.cell? ⟨gb301, 1, none⟩ = some (.slice A0_1 l0_1.length c0_1) ∧ w29.cell? ⟨gb301, 2, none⟩ = some (.slice A0_2 l0_2.length c0_2) ∧ w29.cell? ⟨gb302, 0, none⟩ = some (.int .i64 a1_0) ∧ w29.cell? ⟨gb302, 1, none⟩ = some (.int .i64 a1_1) := hS_
  obtain ⟨Ao31, co31, eo31⟩ := Kd.R_slice HO316.out
  (first | subst eo31 | obtain ⟨rfl, rfl⟩ := eI eo31)
  obtain ⟨Ao33, co33, eo33⟩ := Kd.R_slice HO319.out
  (first | subst eo33 | obtain ⟨rfl, rfl⟩ := eI eo33)
  refine norm_ (a' := ?_) ?_ ?_
  rotate_left
  ·simp only [putAll, Act.put, qA, qB, qC]
   rfl
  refine one_ (i := 9) (N := none) #[tT,tT,tT,tT,tT,tT,tT,tT,tT,tT,fF] rfl rfl (one_of HT_.out (by kernel_rfl)) (by decide) (fun K hK => ?_)
  have hs30 : w29.cell? ⟨gb321, 0, none⟩ = some (.int .i64 0) := yc BK321.out 0
  have hfs30 := yZ BK321.out 0
  have hns30_0 := NB301_321.out
  have hns30_1 := NB302_321.out
  have hms30_0 := NB321_301.out
  have hms30_1 := NB321_302.out
  have hs32 : w29.cell? ⟨gb321, 1, none⟩ = some (.slice none 0 0) := yc BK321.out 1
  have hfs32 := yZ BK321.out 1
  have hns32_0 := NB301_321.out
  have hns32_1 := NB302_321.out
  have hms32_0 := NB321_301.out
  have hms32_1 := NB321_302.out
  have hs34 : w29.cell? ⟨gb321, 2, none⟩ = some (.slice none 0 0) := yc BK321.out 2
  have hfs34 := yZ BK321.out 2
  have hns34_0 := NB301_321.out
  have hns34_1 := NB302_321.out
  have hms34_0 := NB321_301.out
  have hms34_1 := NB321_302.out
  refine skip_ (w1 := ?_) (by rfl) rfl ?_ ?_
  rotate_left
  ·go_simp
   rfl
  refine hK.out _ _ ⟨((cell_far (p := ⟨gb321, _, none⟩) NB301_321.out _).trans (((cell_far (p := ⟨gb321, _, none⟩) NB301_321.out _).trans (((cell_far (p := ⟨gb321, _, none⟩) NB301_321.out _).trans (hHeld.1)))))), ((cell_far (p := ⟨gb321, _, none⟩) NB301_321.out _).trans (((cell_far (p := ⟨gb321, _, none⟩) NB301_321.out _).trans (((cell_far (p := ⟨gb321, _, none⟩) NB301_321.out _).trans (hHeld.2.1)))))), ((cell_far (p := ⟨gb321, _, none⟩) NB301_321.out _).trans (((cell_far (p := ⟨gb321, _, none⟩) NB301_321.out _).trans (((cell_far (p := ⟨gb321, _, none⟩) NB301_321.out _).trans (hHeld.2.2.1)))))), ((cell_far (p := ⟨gb321, _, none⟩) NB302_321.out _).trans (((cell_far (p := ⟨gb321, _, none⟩) NB302_321.out _).trans (((cell_far (p := ⟨gb321, _, none⟩) NB302_321.out _).trans (hHeld.2.2.2.1)))))), ((cell_far (p := ⟨gb321, _, none⟩) NB302_321.out _).trans (((cell_far (p := ⟨gb321, _, none⟩) NB302_321.out _).trans (((cell_far (p := ⟨gb321, _, none⟩) NB302_321.out _).trans (hHeld.2.2.2.2))))))⟩ (fun hHeld => ?_)
  clear hK K
  refine pure_ (i := 10) (N := some 7) (v := ?_) (a' := ?_) #[tT,tT,tT,tT,tT,tT,tT,tT,tT,tT,tT] rfl rfl (any_of HT_.out (by kernel_rfl)) (fun _ _ _ h => h) (Or.inl ⟨by rfl, ?_⟩) ?_ ?_
  rotate_left
  ·intro w'
   go_simp
   with_reducible rfl
  rotate_left
  ·simp only [Act.put, qA, qB, qC, i64_w, i32_w]
   rfl
  refine done_ (done_of HT_.out (by kernel_rfl)) ?_
  have hnb35 := NB301_321.out
  have hnc35 := NB321_301.out
  have hcz36_0 : w29.cell? ⟨gb301, 0, none⟩ = some (.int .i64 a0_0) := yc BK301.out 0
  have hcz36_1 : w29.cell? ⟨gb301, 1, none⟩ = some (.slice A0_1 l0_1.length c0_1) := yc BK301.out 1
  have hcz36_2 : w29.cell? ⟨gb301, 2, none⟩ = some (.slice A0_2 l0_2.length c0_2) := yc BK301.out 2
  have hfz36_0 := yZ BK301.out 0
  have hfz36_1 := yZ BK301.out 1
  have hfz36_2 := yZ BK301.out 2
  try go_wp2_with (first | ((with_reducible refine gate_callee (f := 18) rfl ?_); refine goesL_ (some 30) rfl rfl Try.func18 (by kernel_rfl) rfl #[.agg #[.int .i64 a0_0, .slice A0_1 l0_1.length c0_1, .slice A0_2 l0_2.length c0_2]] rfl (by (try simp only [List.map_toArray, List.map_cons, List.map_nil]); first | done | rfl | (simp only [List.length_drop, List.length_take]; rfl)) ?_; (with_reducible refine (laws_toFree.calls k a0_0 _ _ l0_1 _ _ l0_2 t322 t323 t326 _ ?side1 ?side2 ?side3 ?side4 A13.out).mono ?_); (case side1 => exact cB HR0_1.out (zH HB.out)); (case side2 => exact HC0_1.out); (case side3 => exact cB HR0_2.out (zH HB.out)); (case side4 => exact HC0_2.out); rintro e w37 ⟨v324, v327, rfl, ho0, ho1, hb⟩; refine ⟨_, rfl, ?_⟩; have HO325 := aM (xL (Kd.R_new' (Kd.R_new' (Kd.R_new' (Kd.R_new' ho0 (Kd.R_lt (xH ((x3 HO307.out BK321.out (by decide) (.int .i64 t313) (.slice Ao31 t314.length co31) (.slice Ao33 t317.length co33)))))) (Kd.R_lt (xH ((x3 HO310.out BK321.out (by decide) (.int .i64 t313) (.slice Ao31 t314.length co31) (.slice Ao33 t317.length co33)))))) (Kd.R_lt (xH ((x3 HO316.out BK321.out (by decide) (.int .i64 t313) (.slice Ao31 t314.length co31) (.slice Ao33 t317.length co33)))))) (Kd.R_lt (xH ((x3 HO319.out BK321.out (by decide) (.int .i64 t313) (.slice Ao31 t314.length co31) (.slice Ao33 t317.length co33)))))) (zZ (zH HB.out))); have HO328 := aM (xL (Kd.R_new' (Kd.R_new' (Kd.R_new' (Kd.R_new' ho1 (Kd.R_lt (xH ((x3 HO307.out BK321.out (by decide) (.int .i64 t313) (.slice Ao31 t314.length co31) (.slice Ao33 t317.length co33)))))) (Kd.R_lt (xH ((x3 HO310.out BK321.out (by decide) (.int .i64 t313) (.slice Ao31 t314.length co31) (.slice Ao33 t317.length co33)))))) (Kd.R_lt (xH ((x3 HO316.out BK321.out (by decide) (.int .i64 t313) (.slice Ao31 t314.length co31) (.slice Ao33 t317.length co33)))))) (Kd.R_lt (xH ((x3 HO319.out BK321.out (by decide) (.int .i64 t313) (.slice Ao31 t314.length co31) (.slice Ao33 t317.length co33)))))) (zZ (zH HB.out))); replace HO307 := aM (xM (Kd.R_told (Kd.R_told (Kd.R_old (xH ((x3 HO307.out BK321.out (by decide) (.int .i64 t313) (.slice Ao31 t314.length co31) (.slice Ao33 t317.length co33)))) hb) (Kd.R_base ho0)) (Kd.R_base ho1)) (fun _ h_ => h_.1)); replace HO310 := aM (xM (Kd.R_told (Kd.R_told (Kd.R_old (xH ((x3 HO310.out BK321.out (by decide) (.int .i64 t313) (.slice Ao31 t314.length co31) (.slice Ao33 t317.length co33)))) hb) (Kd.R_base ho0)) (Kd.R_base ho1)) (fun _ h_ => h_.1)); replace HO316 := aM (xM (Kd.R_told (Kd.R_told (Kd.R_old (xH ((x3 HO316.out BK321.out (by decide) (.int .i64 t313) (.slice Ao31 t314.length co31) (.slice Ao33 t317.length co33)))) hb) (Kd.R_base ho0)) (Kd.R_base ho1)) (fun _ h_ => h_.1)); replace HO319 := aM (xM (Kd.R_told (Kd.R_told (Kd.R_old (xH ((x3 HO319.out BK321.out (by decide) (.int .i64 t313) (.slice Ao31 t314.length co31) (.slice Ao33 t317.length co33)))) hb) (Kd.R_base ho0)) (Kd.R_base ho1)) (fun _ h_ => h_.1)); replace BK301 := aM (yB (g := gb301) (o := .cells #[.int .i64 a0_0, .slice A0_1 l0_1.length c0_1, .slice A0_2 l0_2.length c0_2] 32 (0, 0)) (by (with_reducible repeat (first | refine yN ?_ _ | refine yD ?_ | refine yA ?_ _)); refine yF ?_ NB301_321.out _; (with_reducible repeat (first | refine yN ?_ _ | refine yD ?_ | refine yA ?_ _)); refine yF ?_ NB301_321.out _; (with_reducible repeat (first | refine yN ?_ _ | refine yD ?_ | refine yA ?_ _)); refine yF ?_ NB301_321.out _; (with_reducible repeat (first | refine yN ?_ _ | refine yD ?_ | refine yA ?_ _)); exact BK301.out) hb); replace BK302 := aM (yB (g := gb302) (o := .cells #[.int .i64 a1_0, .int .i64 a1_1] 47 (0, 0)) (by (with_reducible repeat (first | refine yN ?_ _ | refine yD ?_ | refine yA ?_ _)); refine yF ?_ NB302_321.out _; (with_reducible repeat (first | refine yN ?_ _ | refine yD ?_ | refine yA ?_ _)); refine yF ?_ NB302_321.out _; (with_reducible repeat (first | refine yN ?_ _ | refine yD ?_ | refine yA ?_ _)); refine yF ?_ NB302_321.out _; (with_reducible repeat (first | refine yN ?_ _ | refine yD ?_ | refine yA ?_ _)); exact BK302.out) hb); replace BK321 := aM (yB (g := gb321) (o := .cells #[.int .i64 t313, .slice Ao31 t314.length co31, .slice Ao33 t317.length co33] 24 (0, 0)) (by (with_reducible repeat (first | refine yN ?_ _ | refine yD ?_ | refine yA ?_ _)); refine yP (cs := #[.int .i64 t313, .slice Ao31 t314.length co31, .slice none 0 0]) ?_ 2 _ rfl; (with_reducible repeat (first | refine yN ?_ _ | refine yD ?_ | refine yA ?_ _)); refine yP (cs := #[.int .i64 t313, .slice none 0 0, .slice none 0 0]) ?_ 1 _ rfl; (with_reducible repeat (first | refine yN ?_ _ | refine yD ?_ | refine yA ?_ _)); refine yP (cs := #[.int .i64 0, .slice none 0 0, .slice none 0 0]) ?_ 0 _ rfl; (with_reducible repeat (first | refine yN ?_ _ | refine yD ?_ | refine yA ?_ _)); exact BK321.out) hb); replace HB := aM (zT (zH HB.out) hb); (try clear hb); (try clear ho0); (try clear ho1)) | ((with_reducible refine gate_dst (N := 8) rfl ?_); refine box_event ?hg (N := 8) ?hd (cs := #[.int .i64 0, .slice none 0 0, .slice none 0 0]) (t := 24) ?hr ?_; (case hd => rfl); (case hg => rfl); (case hr => first | (go_simp; done) | (go_simp; rfl)); intro gb329 hg w38 hbox hb; replace HO307 := xK HO307.out hb; replace HO310 := xK HO310.out hb; replace HO316 := xK HO316.out hb; replace HO319 := xK HO319.out hb; replace HO325 := xK HO325.out hb; replace HO328 := xK HO328.out hb; have BK329 := aM (hbox); have GW329 := aM ((by rw [hg]; exact (zZ (zH HB.out)) : w.heap.size ≤ gb329)); have GE329 := aM ((by rw [hg]; exact (zZ (zH HB.out)) : w.heap.size ≤ gb329)); replace HB := aM (zT (zH HB.out) hb); have NB301_329 := nL BK301.out hg; have NB329_301 := nR BK301.out hg; replace BK301 := yK BK301.out hb; have NB302_329 := nL BK302.out hg; have NB329_302 := nR BK302.out hg; replace BK302 := yK BK302.out hb; have NB321_329 := nL BK321.out hg; have NB329_321 := nR BK321.out hg; replace BK321 := yK BK321.out hb; clear hb hbox hg; have hnb39 := NB329_301.out; have hnc39 := NB301_329.out; have hnb40 := NB329_302.out; have hnc40 := NB302_329.out; have hnb41 := NB329_321.out; have hnc41 := NB321_329.out; have hcz42_0 : w38.cell? ⟨gb329, 0, none⟩ = some (.int .i64 0) := yc BK329.out 0; have hcz42_1 : w38.cell? ⟨gb329, 1, none⟩ = some (.slice none 0 0) := yc BK329.out 1; have hcz42_2 : w38.cell? ⟨gb329, 2, none⟩ = some (.slice none 0 0) := yc BK329.out 2; have hfz42_0 := yZ BK329.out 0; have hfz42_1 := yZ BK329.out 1; have hfz42_2 := yZ BK329.out 2; obtain ⟨Ao43, co43, eo43⟩ := Kd.R_slice HO325.out; subst eo43; obtain ⟨Ao44, co44, eo44⟩ := Kd.R_slice HO328.out; subst eo44))
  have n0_ : Aside0 (Kd.R k49 49 (((w38.setCell ⟨gb329, 0, none⟩ (.int .i64 t322)).setCell ⟨gb329, 1, none⟩ (.slice Ao43 t323.length co43)).setCell ⟨gb329, 2, none⟩ (.slice Ao44 t326.length co44)) w.heap.size (fun k_ => some k_ ≠ (v309 : Value).ownBlock ∧ some k_ ≠ oB Ao31 t314.length co31 ∧ some k_ ≠ oB Ao33 t317.length co33 ∧ some k_ ≠ oB Ao43 t323.length co43 ∧ some k_ ≠ oB Ao44 t326.length co44) v306 t305) := ⟨xH (xM (xF (p := ⟨gb329, 2, none⟩) (xF (p := ⟨gb329, 1, none⟩) (xF (p := ⟨gb329, 0, none⟩) (xT HO307.out BK329.out (by decide)) (fun _ hk => hk.2) (.int .i64 t322)) (fun _ hk => hk.2) (.slice Ao43 t323.length co43)) (fun _ hk => hk.2) (.slice Ao44 t326.length co44)) (fun _ hk => ⟨hk.1.1.1.1, ⟨hk.1.1.1.2.1, ⟨hk.1.1.1.2.2, ⟨hk.1.1.2, hk.1.2⟩⟩⟩⟩))⟩
  have n1_ : Aside0 (Kd.R k49 49 (((w38.setCell ⟨gb329, 0, none⟩ (.int .i64 t322)).setCell ⟨gb329, 1, none⟩ (.slice Ao43 t323.length co43)).setCell ⟨gb329, 2, none⟩ (.slice Ao44 t326.length co44)) w.heap.size (fun k_ => some k_ ≠ (v306 : Value).ownBlock ∧ some k_ ≠ oB Ao31 t314.length co31 ∧ some k_ ≠ oB Ao33 t317.length co33 ∧ some k_ ≠ oB Ao43 t323.length co43 ∧ some k_ ≠ oB Ao44 t326.length co44) v309 t308) := ⟨xH (xM (xF (p := ⟨gb329, 2, none⟩) (xF (p := ⟨gb329, 1, none⟩) (xF (p := ⟨gb329, 0, none⟩) (xT HO310.out BK329.out (by decide)) (fun _ hk => hk.2) (.int .i64 t322)) (fun _ hk => hk.2) (.slice Ao43 t323.length co43)) (fun _ hk => hk.2) (.slice Ao44 t326.length co44)) (fun _ hk => ⟨hk.1.1.1.1, ⟨hk.1.1.1.2.1, ⟨hk.1.1.1.2.2, ⟨hk.1.1.2, hk.1.2⟩⟩⟩⟩))⟩
  have n2_ : Aside0 (Kd.R k49 49 (((w38.setCell ⟨gb329, 0, none⟩ (.int .i64 t322)).setCell ⟨gb329, 1, none⟩ (.slice Ao43 t323.length co43)).setCell ⟨gb329, 2, none⟩ (.slice Ao44 t326.length co44)) w.heap.size (fun k_ => some k_ ≠ (v306 : Value).ownBlock ∧ some k_ ≠ (v309 : Value).ownBlock ∧ some k_ ≠ oB Ao33 t317.length co33 ∧ some k_ ≠ oB Ao43 t323.length co43 ∧ some k_ ≠ oB Ao44 t326.length co44) (.slice Ao31 t314.length co31) t314) := ⟨xH (xM (xF (p := ⟨gb329, 2, none⟩) (xF (p := ⟨gb329, 1, none⟩) (xF (p := ⟨gb329, 0, none⟩) (xT HO316.out BK329.out (by decide)) (fun _ hk => hk.2) (.int .i64 t322)) (fun _ hk => hk.2) (.slice Ao43 t323.length co43)) (fun _ hk => hk.2) (.slice Ao44 t326.length co44)) (fun _ hk => ⟨hk.1.1.1.1, ⟨hk.1.1.1.2.1, ⟨hk.1.1.1.2.2, ⟨hk.1.1.2, hk.1.2⟩⟩⟩⟩))⟩
  have n3_ : Aside0 (Kd.R k49 49 (((w38.setCell ⟨gb329, 0, none⟩ (.int .i64 t322)).setCell ⟨gb329, 1, none⟩ (.slice Ao43 t323.length co43)).setCell ⟨gb329, 2, none⟩ (.slice Ao44 t326.length co44)) w.heap.size (fun k_ => some k_ ≠ (v306 : Value).ownBlock ∧ some k_ ≠ (v309 : Value).ownBlock ∧ some k_ ≠ oB Ao31 t314.length co31 ∧ some k_ ≠ oB Ao43 t323.length co43 ∧ some k_ ≠ oB Ao44 t326.length co44) (.slice Ao33 t317.length co33) t317) := ⟨xH (xM (xF (p := ⟨gb329, 2, none⟩) (xF (p := ⟨gb329, 1, none⟩) (xF (p := ⟨gb329, 0, none⟩) (xT HO319.out BK329.out (by decide)) (fun _ hk => hk.2) (.int .i64 t322)) (fun _ hk => hk.2) (.slice Ao43 t323.length co43)) (fun _ hk => hk.2) (.slice Ao44 t326.length co44)) (fun _ hk => ⟨hk.1.1.1.1, ⟨hk.1.1.1.2.1, ⟨hk.1.1.1.2.2, ⟨hk.1.1.2, hk.1.2⟩⟩⟩⟩))⟩
  have n4_ : Aside0 (Kd.R k49 49 (((w38.setCell ⟨gb329, 0, none⟩ (.int .i64 t322)).setCell ⟨gb329, 1, none⟩ (.slice Ao43 t323.length co43)).setCell ⟨gb329, 2, none⟩ (.slice Ao44 t326.length co44)) w.heap.size (fun k_ => some k_ ≠ (v306 : Value).ownBlock ∧ some k_ ≠ (v309 : Value).ownBlock ∧ some k_ ≠ oB Ao31 t314.length co31 ∧ some k_ ≠ oB Ao33 t317.length co33 ∧ some k_ ≠ oB Ao44 t326.length co44) (.slice Ao43 t323.length co43) t323) := ⟨xH (xM (xF (p := ⟨gb329, 2, none⟩) (xF (p := ⟨gb329, 1, none⟩) (xF (p := ⟨gb329, 0, none⟩) (xT HO325.out BK329.out (by decide)) (fun _ hk => hk.2) (.int .i64 t322)) (fun _ hk => hk.2) (.slice Ao43 t323.length co43)) (fun _ hk => hk.2) (.slice Ao44 t326.length co44)) (fun _ hk => ⟨hk.1.1.1.1.2, ⟨hk.1.1.1.2, ⟨hk.1.1.2, ⟨hk.1.2, hk.1.1.1.1.1⟩⟩⟩⟩))⟩
  have n5_ : Aside0 (Kd.R k49 49 (((w38.setCell ⟨gb329, 0, none⟩ (.int .i64 t322)).setCell ⟨gb329, 1, none⟩ (.slice Ao43 t323.length co43)).setCell ⟨gb329, 2, none⟩ (.slice Ao44 t326.length co44)) w.heap.size (fun k_ => some k_ ≠ (v306 : Value).ownBlock ∧ some k_ ≠ (v309 : Value).ownBlock ∧ some k_ ≠ oB Ao31 t314.length co31 ∧ some k_ ≠ oB Ao33 t317.length co33 ∧ some k_ ≠ oB Ao43 t323.length co43) (.slice Ao44 t326.length co44) t326) := ⟨xH (xM (xF (p := ⟨gb329, 2, none⟩) (xF (p := ⟨gb329, 1, none⟩) (xF (p := ⟨gb329, 0, none⟩) (xT HO328.out BK329.out (by decide)) (fun _ hk => hk.2) (.int .i64 t322)) (fun _ hk => hk.2) (.slice Ao43 t323.length co43)) (fun _ hk => hk.2) (.slice Ao44 t326.length co44)) (fun _ hk => ⟨hk.1.1.1.1.2, ⟨hk.1.1.1.2, ⟨hk.1.1.2, ⟨hk.1.2, hk.1.1.1.1.1⟩⟩⟩⟩))⟩
  have n6_ : Aside0 ((((w38.setCell ⟨gb329, 0, none⟩ (.int .i64 t322)).setCell ⟨gb329, 1, none⟩ (.slice Ao43 t323.length co43)).setCell ⟨gb329, 2, none⟩ (.slice Ao44 t326.length co44)).heap[gb301]? = some (.cells #[.int .i64 a0_0, .slice A0_1 l0_1.length c0_1, .slice A0_2 l0_2.length c0_2] 32 (0, 0))) := ⟨by (with_reducible repeat (first | refine yN ?_ _ | refine yD ?_ | refine yA ?_ _)); refine yF ?_ NB301_329.out _; (with_reducible repeat (first | refine yN ?_ _ | refine yD ?_ | refine yA ?_ _)); refine yF ?_ NB301_329.out _; (with_reducible repeat (first | refine yN ?_ _ | refine yD ?_ | refine yA ?_ _)); refine yF ?_ NB301_329.out _; (with_reducible repeat (first | refine yN ?_ _ | refine yD ?_ | refine yA ?_ _)); exact BK301.out⟩
  have n7_ : Aside0 ((((w38.setCell ⟨gb329, 0, none⟩ (.int .i64 t322)).setCell ⟨gb329, 1, none⟩ (.slice Ao43 t323.length co43)).setCell ⟨gb329, 2, none⟩ (.slice Ao44 t326.length co44)).heap[gb302]? = some (.cells #[.int .i64 a1_0, .int .i64 a1_1] 47 (0, 0))) := ⟨by (with_reducible repeat (first | refine yN ?_ _ | refine yD ?_ | refine yA ?_ _)); refine yF ?_ NB302_329.out _; (with_reducible repeat (first | refine yN ?_ _ | refine yD ?_ | refine yA ?_ _)); refine yF ?_ NB302_329.out _; (with_reducible repeat (first | refine yN ?_ _ | refine yD ?_ | refine yA ?_ _)); refine yF ?_ NB302_329.out _; (with_reducible repeat (first | refine yN ?_ _ | refine yD ?_ | refine yA ?_ _)); exact BK302.out⟩
  have n8_ : Aside0 ((((w38.setCell ⟨gb329, 0, none⟩ (.int .i64 t322)).setCell ⟨gb329, 1, none⟩ (.slice Ao43 t323.length co43)).setCell ⟨gb329, 2, none⟩ (.slice Ao44 t326.length co44)).heap[gb321]? = some (.cells #[.int .i64 t313, .slice Ao31 t314.length co31, .slice Ao33 t317.length co33] 24 (0, 0))) := ⟨by (with_reducible repeat (first | refine yN ?_ _ | refine yD ?_ | refine yA ?_ _)); refine yF ?_ NB321_329.out _; (with_reducible repeat (first | refine yN ?_ _ | refine yD ?_ | refine yA ?_ _)); refine yF ?_ NB321_329.out _; (with_reducible repeat (first | refine yN ?_ _ | refine yD ?_ | refine yA ?_ _)); refine yF ?_ NB321_329.out _; (with_reducible repeat (first | refine yN ?_ _ | refine yD ?_ | refine yA ?_ _)); exact BK321.out⟩
  have n9_ : Aside0 ((((w38.setCell ⟨gb329, 0, none⟩ (.int .i64 t322)).setCell ⟨gb329, 1, none⟩ (.slice Ao43 t323.length co43)).setCell ⟨gb329, 2, none⟩ (.slice Ao44 t326.length co44)).heap[gb329]? = some (.cells #[.int .i64 t322, .slice Ao43 t323.length co43, .slice Ao44 t326.length co44] 24 (0, 0))) := ⟨by (with_reducible repeat (first | refine yN ?_ _ | refine yD ?_ | refine yA ?_ _)); refine yP (cs := #[.int .i64 t322, .slice Ao43 t323.length co43, .slice none 0 0]) ?_ 2 _ rfl; (with_reducible repeat (first | refine yN ?_ _ | refine yD ?_ | refine yA ?_ _)); refine yP (cs := #[.int .i64 t322, .slice none 0 0, .slice none 0 0]) ?_ 1 _ rfl; (with_reducible repeat (first | refine yN ?_ _ | refine yD ?_ | refine yA ?_ _)); refine yP (cs := #[.int .i64 0, .slice none 0 0, .slice none 0 0]) ?_ 0 _ rfl; (with_reducible repeat (first | refine yN ?_ _ | refine yD ?_ | refine yA ?_ _)); exact BK329.out⟩
  have n10_ : Aside0 (Below w.heap.size w (((w38.setCell ⟨gb329, 0, none⟩ (.int .i64 t322)).setCell ⟨gb329, 1, none⟩ (.slice Ao43 t323.length co43)).setCell ⟨gb329, 2, none⟩ (.slice Ao44 t326.length co44))) := ⟨zH HB.out⟩
  (try clear HO307); (try clear HO310); (try clear HO316); (try clear HO319); (try clear HO325); (try clear HO328); (try clear BK301); (try clear BK302); (try clear BK321); (try clear BK329); (try clear HB)
  generalize (((w38.setCell ⟨gb329, 0, none⟩ (.int .i64 t322)).setCell ⟨gb329, 1, none⟩ (.slice Ao43 t323.length co43)).setCell ⟨gb329, 2, none⟩ (.slice Ao44 t326.length co44)) = w45 at n0_ n1_ n2_ n3_ n4_ n5_ n6_ n7_ n8_ n9_ n10_ ⊢
  have HO307 := n0_
  have HO310 := n1_
  have HO316 := n2_
  have HO319 := n3_
  have HO325 := n4_
  have HO328 := n5_
  have BK301 := n6_
  have BK302 := n7_
  have BK321 := n8_
  have BK329 := n9_
  have HB := n10_
  clear n0_ n1_ n2_ n3_ n4_ n5_ n6_ n7_ n8_ n9_ n10_
  replace HO307 := aM (xD HO307.out)
  replace HO310 := aM (xD HO310.out)
  replace HO316 := aM (xD HO316.out)
  replace HO319 := aM (xD HO319.out)
  replace HO325 := aM (xD HO325.out)
  replace HO328 := aM (xD HO328.out)
  replace BK301 := aM (yD BK301.out)
  replace BK302 := aM (yD BK302.out)
  replace BK321 := aM (yD BK321.out)
  replace BK329 := aM (yD BK329.out)
  replace HB := aM (zD HB.out)
  refine start_ (n := 10) (S := fun w' => w'.cell? ⟨gb329, 0, none⟩ = some (.int .i64 t322) ∧ w'.cell? ⟨gb329, 1, none⟩ = some (.slice Ao43 t323.length co43) ∧ w'.cell? ⟨gb329, 2, none⟩ = some (.slice Ao44 t326.length co44) ∧ w'.cell? ⟨gb302, 0, none⟩ = some (.int .i64 a1_0) ∧ w'.cell? ⟨gb302, 1, none⟩ = some (.int .i64 a1_1)) (ds := []) #[fF,fF,fF,fF,fF,fF,fF,fF,fF,fF] (by kernel_rfl) rfl rfl ⟨yc BK329.out 0, yc BK329.out 1, yc BK329.out 2, yc BK302.out 0, yc BK302.out 1⟩ (fun hHeld => ?_); refine with_tabW laws_FnExactGiveRoom.tab7 laws_FnExactGiveRoom.bits7 (fun HT_ HW_ => ?_)
  generalize w45.drew = w46 at HO307 HO310 HO316 HO319 HO325 HO328 BK301 BK302 BK321 BK329 HB hHeld ⊢
  refine take_ (i := 0) (N := some 32) (v := ?_) (a' := ?_) #[tT,fF,fF,fF,fF,fF,fF,fF,fF,fF] rfl rfl (take_ofW HT_.out HW_.out (by kernel_rfl)) (fun _ _ _ h => h) (Or.inl ⟨by rfl, ?_⟩) hHeld ?_ ?_
  rotate_left
  ·rintro w' ⟨s0, s1, s2, s3, s4⟩
   go_simp
   with_reducible rfl
  rotate_left
  ·simp only [Act.put, qA, qB, qC, i64_w, i32_w]
   rfl
  refine take_ (i := 1) (N := some 33) (v := ?_) (a' := ?_) #[tT,tT,fF,fF,fF,fF,fF,fF,fF,fF] rfl rfl (take_ofW HT_.out HW_.out (by kernel_rfl)) (fun _ _ _ h => h) (Or.inl ⟨by rfl, ?_⟩) hHeld ?_ ?_
  rotate_left
  ·rintro w' ⟨s0, s1, s2, s3, s4⟩
   go_simp
   with_reducible rfl
  rotate_left
  ·simp only [Act.put, qA, qB, qC, i64_w, i32_w]
   rfl
  refine join_ (σ := Value × Value × Nat) 2 #[tT,tT,tT,tT,tT,tT,tT,tT,fF,fF] (fun s_ => [(34, .agg #[.int .i64 t330, .int .i64 t331]), (35, .tuple #[.agg #[.int .i64 t332, s_.1, s_.2.1], .bool t339]), (9, .pointer (some ⟨s_.2.2, 0, none⟩)), (31, .tuple #[.agg #[.int .i64 t332, s_.1, s_.2.1], .bool t339]), (36, .agg #[.int .i64 t332, s_.1, s_.2.1]), (37, .bool t339)]) (fun s_ w' => (w'.cell? ⟨gb329, 0, none⟩ = some (.int .i64 t322) ∧ w'.cell? ⟨gb329, 1, none⟩ = some (.slice Ao43 t323.length co43) ∧ w'.cell? ⟨gb329, 2, none⟩ = some (.slice Ao44 t326.length co44) ∧ w'.cell? ⟨gb302, 0, none⟩ = some (.int .i64 a1_0) ∧ w'.cell? ⟨gb302, 1, none⟩ = some (.int .i64 a1_1)) ∧ (Kd.R k49 49 w' w.heap.size (fun k_ => some k_ ≠ (v309 : Value).ownBlock ∧ some k_ ≠ oB Ao31 t314.length co31 ∧ some k_ ≠ oB Ao33 t317.length co33 ∧ some k_ ≠ oB Ao43 t323.length co43 ∧ some k_ ≠ oB Ao44 t326.length co44 ∧ some k_ ≠ (s_.1 : Value).ownBlock ∧ some k_ ≠ (s_.2.1 : Value).ownBlock) v306 t305) ∧ (Kd.R k49 49 w' w.heap.size (fun k_ => some k_ ≠ (v306 : Value).ownBlock ∧ some k_ ≠ oB Ao31 t314.length co31 ∧ some k_ ≠ oB Ao33 t317.length co33 ∧ some k_ ≠ oB Ao43 t323.length co43 ∧ some k_ ≠ oB Ao44 t326.length co44 ∧ some k_ ≠ (s_.1 : Value).ownBlock ∧ some k_ ≠ (s_.2.1 : Value).ownBlock) v309 t308) ∧ (Kd.R k49 49 w' w.heap.size (fun k_ => some k_ ≠ (v306 : Value).ownBlock ∧ some k_ ≠ (v309 : Value).ownBlock ∧ some k_ ≠ oB Ao33 t317.length co33 ∧ some k_ ≠ oB Ao43 t323.length co43 ∧ some k_ ≠ oB Ao44 t326.length co44 ∧ some k_ ≠ (s_.1 : Value).ownBlock ∧ some k_ ≠ (s_.2.1 : Value).ownBlock) (.slice Ao31 t314.length co31) t314) ∧ (Kd.R k49 49 w' w.heap.size (fun k_ => some k_ ≠ (v306 : Value).ownBlock ∧ some k_ ≠ (v309 : Value).ownBlock ∧ some k_ ≠ oB Ao31 t314.length co31 ∧ some k_ ≠ oB Ao43 t323.length co43 ∧ some k_ ≠ oB Ao44 t326.length co44 ∧ some k_ ≠ (s_.1 : Value).ownBlock ∧ some k_ ≠ (s_.2.1 : Value).ownBlock) (.slice Ao33 t317.length co33) t317) ∧ (Kd.R k49 49 w' w.heap.size (fun k_ => some k_ ≠ (v306 : Value).ownBlock ∧ some k_ ≠ (v309 : Value).ownBlock ∧ some k_ ≠ oB Ao31 t314.length co31 ∧ some k_ ≠ oB Ao33 t317.length co33 ∧ some k_ ≠ oB Ao44 t326.length co44 ∧ some k_ ≠ (s_.1 : Value).ownBlock ∧ some k_ ≠ (s_.2.1 : Value).ownBlock) (.slice Ao43 t323.length co43) t323) ∧ (Kd.R k49 49 w' w.heap.size (fun k_ => some k_ ≠ (v306 : Value).ownBlock ∧ some k_ ≠ (v309 : Value).ownBlock ∧ some k_ ≠ oB Ao31 t314.length co31 ∧ some k_ ≠ oB Ao33 t317.length co33 ∧ some k_ ≠ oB Ao43 t323.length co43 ∧ some k_ ≠ (s_.1 : Value).ownBlock ∧ some k_ ≠ (s_.2.1 : Value).ownBlock) (.slice Ao44 t326.length co44) t326) ∧ (Kd.R k49 49 w' w.heap.size (fun k_ => some k_ ≠ (v306 : Value).ownBlock ∧ some k_ ≠ (v309 : Value).ownBlock ∧ some k_ ≠ oB Ao31 t314.length co31 ∧ some k_ ≠ oB Ao33 t317.length co33 ∧ some k_ ≠ oB Ao43 t323.length co43 ∧ some k_ ≠ oB Ao44 t326.length co44 ∧ some k_ ≠ (s_.2.1 : Value).ownBlock) s_.1 t333) ∧ (Kd.R k49 49 w' w.heap.size (fun k_ => some k_ ≠ (v306 : Value).ownBlock ∧ some k_ ≠ (v309 : Value).ownBlock ∧ some k_ ≠ oB Ao31 t314.length co31 ∧ some k_ ≠ oB Ao33 t317.length co33 ∧ some k_ ≠ oB Ao43 t323.length co43 ∧ some k_ ≠ oB Ao44 t326.length co44 ∧ some k_ ≠ (s_.1 : Value).ownBlock) s_.2.1 t336) ∧ (w'.heap[gb301]? = some (.cells #[.int .i64 a0_0, .slice A0_1 l0_1.length c0_1, .slice A0_2 l0_2.length c0_2] 32 (0, 0))) ∧ (w'.heap[gb302]? = some (.cells #[.int .i64 a1_0, .int .i64 a1_1] 47 (0, 0))) ∧ (w'.heap[gb321]? = some (.cells #[.int .i64 t313, .slice Ao31 t314.length co31, .slice Ao33 t317.length co33] 24 (0, 0))) ∧ (w'.heap[gb329]? = some (.cells #[.int .i64 t322, .slice Ao43 t323.length co43, .slice Ao44 t326.length co44] 24 (0, 0))) ∧ (w'.heap[s_.2.2]? = some (.cells #[.int .i64 0, .slice none 0 0, .slice none 0 0] 24 (0, 0))) ∧ (w.heap.size ≤ s_.2.2) ∧ (w.heap.size ≤ s_.2.2) ∧ (gb301 ≠ s_.2.2) ∧ (s_.2.2 ≠ gb301) ∧ (gb302 ≠ s_.2.2) ∧ (s_.2.2 ≠ gb302) ∧ (gb321 ≠ s_.2.2) ∧ (s_.2.2 ≠ gb321) ∧ (gb329 ≠ s_.2.2) ∧ (s_.2.2 ≠ gb329) ∧ (Below w.heap.size w w')) ?_ ?_
  rotate_left
  ·intro hCont
   refine two_ (i := 2) (j := 7) (Ni := some 34) (Nj := some 9) #[tT,tT,tT,fF,fF,fF,fF,fF,fF,fF] #[tT,tT,fF,fF,fF,fF,fF,tT,fF,fF] rfl rfl rfl rfl (two_of HT_.out (by kernel_rfl)) (by decide) (by decide) (fun K hK => ?_) (fun K hK => ?_)
   ·skip
    refine gS Try.func30 (by kernel_rfl) rfl #[.agg #[.int .i64 a1_0, .int .i64 a1_1]] (by rfl) rfl rfl ?_
    with_reducible refine (laws_toExtent.calls a1_0 a1_1 t330 t331 _ A14.out).mono ?_
    rintro e w47 ⟨rfl, hb⟩
    refine ⟨_, rfl, ?_⟩
    replace HO307 := xK HO307.out hb
    replace HO310 := xK HO310.out hb
    replace HO316 := xK HO316.out hb
    replace HO319 := xK HO319.out hb
    replace HO325 := xK HO325.out hb
    replace HO328 := xK HO328.out hb
    replace BK301 := yK BK301.out hb
    replace BK302 := yK BK302.out hb
    replace BK321 := yK BK321.out hb
    replace BK329 := yK BK329.out hb
    replace HB := aM (zT (zH HB.out) hb)
    (try clear hb)
    refine hK.out _ _ ⟨yc BK329.out 0, yc BK329.out 1, yc BK329.out 2, yc BK302.out 0, yc BK302.out 1⟩ (fun hHeld => ?_)
    clear hK K
    refine norm_ (a' := ?_) ?_ ?_
    rotate_left
    ·show Act.put _ (some 34) _ = _
     simp only [Act.put, qA, qB, qC, i64_w, i32_w]
     rfl
    refine two_ (i := 3) (j := 7) (Ni := some 35) (Nj := some 9) #[tT,tT,tT,tT,fF,fF,fF,fF,fF,fF] #[tT,tT,tT,fF,fF,fF,fF,tT,fF,fF] rfl rfl rfl rfl (two_of HT_.out (by kernel_rfl)) (by decide) (by decide) (fun K hK => ?_) (fun K hK => ?_)
    ·skip
     refine gS Try.func31 (by kernel_rfl) rfl #[.agg #[.int .i64 t322, .slice Ao43 t323.length co43, .slice Ao44 t326.length co44], .agg #[.int .i64 t330, .int .i64 t331]] (by rfl) rfl rfl ?_
     with_reducible refine (impl_GiveRoom.calls k t322 _ _ t323 _ _ t326 t330 t331 t332 t333 t336 t339 _ ?side1 ?side2 ?side3 ?side4 A15.out).mono ?_
     (case side1 => repeat (first | exact (Kd.R_reads' HO325.out).2.2 | (with_reducible refine cA ?_ _) | (with_reducible refine cN ?_ _) | (with_reducible refine cD ?_)))
     (case side2 => exact (Kd.R_reads' HO325.out).2.1)
     (case side3 => repeat (first | exact (Kd.R_reads' HO328.out).2.2 | (with_reducible refine cA ?_ _) | (with_reducible refine cN ?_ _) | (with_reducible refine cD ?_)))
     (case side4 => exact (Kd.R_reads' HO328.out).2.1)
     rintro e w48 ⟨v334, v337, rfl, ho0, ho1, hb⟩
     refine ⟨_, rfl, ?_⟩
     have HO335 := aM (xL (Kd.R_new' (Kd.R_new' (Kd.R_new' (Kd.R_new' (Kd.R_new' (Kd.R_new' ho0 (Kd.R_lt (xH HO307.out))) (Kd.R_lt (xH HO310.out))) (Kd.R_lt (xH HO316.out))) (Kd.R_lt (xH HO319.out))) (Kd.R_lt (xH HO325.out))) (Kd.R_lt (xH HO328.out))) (zZ (zH HB.out)))
     have HO338 := aM (xL (Kd.R_new' (Kd.R_new' (Kd.R_new' (Kd.R_new' (Kd.R_new' (Kd.R_new' ho1 (Kd.R_lt (xH HO307.out))) (Kd.R_lt (xH HO310.out))) (Kd.R_lt (xH HO316.out))) (Kd.R_lt (xH HO319.out))) (Kd.R_lt (xH HO325.out))) (Kd.R_lt (xH HO328.out))) (zZ (zH HB.out)))
     replace HO307 := aM (xM (Kd.R_told (Kd.R_told (Kd.R_old (xH HO307.out) hb) (Kd.R_base ho0)) (Kd.R_base ho1)) (fun _ h_ => h_.1))
     replace HO310 := aM (xM (Kd.R_told (Kd.R_told (Kd.R_old (xH HO310.out) hb) (Kd.R_base ho0)) (Kd.R_base ho1)) (fun _ h_ => h_.1))
     replace HO316 := aM (xM (Kd.R_told (Kd.R_told (Kd.R_old (xH HO316.out) hb) (Kd.R_base ho0)) (Kd.R_base ho1)) (fun _ h_ => h_.1))
     replace HO319 := aM (xM (Kd.R_told (Kd.R_told (Kd.R_old (xH HO319.out) hb) (Kd.R_base ho0)) (Kd.R_base ho1)) (fun _ h_ => h_.1))
     replace HO325 := aM (xM (Kd.R_told (Kd.R_told (Kd.R_old (xH HO325.out) hb) (Kd.R_base ho0)) (Kd.R_base ho1)) (fun _ h_ => h_.1))
     replace HO328 := aM (xM (Kd.R_told (Kd.R_told (Kd.R_old (xH HO328.out) hb) (Kd.R_base ho0)) (Kd.R_base ho1)) (fun _ h_ => h_.1))
     replace BK301 := yK BK301.out hb
     replace BK302 := yK BK302.out hb
     replace BK321 := yK BK321.out hb
     replace BK329 := yK BK329.out hb
     replace HB := aM (zT (zH HB.out) hb)
     (try clear hb); (try clear ho0); (try clear ho1)
     refine hK.out _ _ ⟨yc BK329.out 0, yc BK329.out 1, yc BK329.out 2, yc BK302.out 0, yc BK302.out 1⟩ (fun hHeld => ?_)
     clear hK K
     refine norm_ (a' := ?_) ?_ ?_
     rotate_left
     ·show Act.put _ (some 35) _ = _
      simp only [Act.put, qA, qB, qC, i64_w, i32_w]
      rfl
     refine pure_ (i := 4) (N := some 31) (v := ?_) (a' := ?_) #[tT,tT,tT,tT,tT,fF,fF,fF,fF,fF] rfl rfl (any_of HT_.out (by kernel_rfl)) (fun _ _ _ h => h) (Or.inl ⟨by rfl, ?_⟩) ?_ ?_
     rotate_left
     ·intro w'
      go_simp
      with_reducible rfl
     rotate_left
     ·simp only [Act.put, qA, qB, qC, i64_w, i32_w]
      rfl
     refine pure_ (i := 5) (N := some 36) (v := ?_) (a' := ?_) #[tT,tT,tT,tT,tT,tT,fF,fF,fF,fF] rfl rfl (any_of HT_.out (by kernel_rfl)) (fun _ _ _ h => h) (Or.inl ⟨by rfl, ?_⟩) ?_ ?_
     rotate_left
     ·intro w'
      go_simp
      with_reducible rfl
     rotate_left
     ·simp only [Act.put, qA, qB, qC, i64_w, i32_w]
      rfl
     refine pure_ (i := 6) (N := some 37) (v := ?_) (a' := ?_) #[tT,tT,tT,tT,tT,tT,tT,fF,fF,fF] rfl rfl (any_of HT_.out (by kernel_rfl)) (fun _ _ _ h => h) (Or.inl ⟨by rfl, ?_⟩) ?_ ?_
     rotate_left
     ·intro w'
      go_simp
      with_reducible rfl
     rotate_left
     ·simp only [Act.put, qA, qB, qC, i64_w, i32_w]
      rfl
     refine one_ (i := 7) (N := some 9) #[tT,tT,tT,tT,tT,tT,tT,tT,fF,fF] rfl rfl (one_of HT_.out (by kernel_rfl)) (by decide) (fun K hK => ?_)
     refine box_step ?hg (N := 9) ?hd (cs := #[.int .i64 0, .slice none 0 0, .slice none 0 0]) (t := 24) ?hr ?_; (case hd => rfl); (case hg => rfl); (case hr => first | (go_simp; done) | (go_simp; rfl))
     intro gb340 hg w49 hbox hb
     replace HO307 := xK HO307.out hb
     replace HO310 := xK HO310.out hb
     replace HO316 := xK HO316.out hb
     replace HO319 := xK HO319.out hb
     replace HO325 := xK HO325.out hb
     replace HO328 := xK HO328.out hb
     replace HO335 := xK HO335.out hb
     replace HO338 := xK HO338.out hb
     have BK340 := aM (hbox)
     have GW340 := aM ((by rw [hg]; exact (zZ (zH HB.out)) : w.heap.size ≤ gb340))
     have GE340 := aM ((by rw [hg]; exact (zZ (zH HB.out)) : w.heap.size ≤ gb340))
     replace HB := aM (zT (zH HB.out) hb)
     have NB301_340 := nL BK301.out hg
     have NB340_301 := nR BK301.out hg
     replace BK301 := yK BK301.out hb
     have NB302_340 := nL BK302.out hg
     have NB340_302 := nR BK302.out hg
     replace BK302 := yK BK302.out hb
     have NB321_340 := nL BK321.out hg
     have NB340_321 := nR BK321.out hg
     replace BK321 := yK BK321.out hb
     have NB329_340 := nL BK329.out hg
     have NB340_329 := nR BK329.out hg
     replace BK329 := yK BK329.out hb
     clear hb hbox hg
     refine hK.out _ _ ⟨yc BK329.out 0, yc BK329.out 1, yc BK329.out 2, yc BK302.out 0, yc BK302.out 1⟩ (fun hHeld => ?_)
     clear hK K
     refine norm_ (a' := ?_) ?_ ?_
     rotate_left
     ·show Act.put _ (some 9) _ = _
      simp only [Act.put, qA, qB, qC, i64_w, i32_w]
      rfl
     exact norm_ (by simp only [putAll, Act.put, qA, qB, qC]) (hCont (v334, v337, gb340) _ ⟨hHeld, (xH (xM HO307.out (fun _ hk => ⟨hk.1.1.1, ⟨hk.1.1.2.1, ⟨hk.1.1.2.2.1, ⟨hk.1.1.2.2.2.1, ⟨hk.1.1.2.2.2.2, ⟨hk.1.2, hk.2⟩⟩⟩⟩⟩⟩))), (xH (xM HO310.out (fun _ hk => ⟨hk.1.1.1, ⟨hk.1.1.2.1, ⟨hk.1.1.2.2.1, ⟨hk.1.1.2.2.2.1, ⟨hk.1.1.2.2.2.2, ⟨hk.1.2, hk.2⟩⟩⟩⟩⟩⟩))), (xH (xM HO316.out (fun _ hk => ⟨hk.1.1.1, ⟨hk.1.1.2.1, ⟨hk.1.1.2.2.1, ⟨hk.1.1.2.2.2.1, ⟨hk.1.1.2.2.2.2, ⟨hk.1.2, hk.2⟩⟩⟩⟩⟩⟩))), (xH (xM HO319.out (fun _ hk => ⟨hk.1.1.1, ⟨hk.1.1.2.1, ⟨hk.1.1.2.2.1, ⟨hk.1.1.2.2.2.1, ⟨hk.1.1.2.2.2.2, ⟨hk.1.2, hk.2⟩⟩⟩⟩⟩⟩))), (xH (xM HO325.out (fun _ hk => ⟨hk.1.1.1, ⟨hk.1.1.2.1, ⟨hk.1.1.2.2.1, ⟨hk.1.1.2.2.2.1, ⟨hk.1.1.2.2.2.2, ⟨hk.1.2, hk.2⟩⟩⟩⟩⟩⟩))), (xH (xM HO328.out (fun _ hk => ⟨hk.1.1.1, ⟨hk.1.1.2.1, ⟨hk.1.1.2.2.1, ⟨hk.1.1.2.2.2.1, ⟨hk.1.1.2.2.2.2, ⟨hk.1.2, hk.2⟩⟩⟩⟩⟩⟩))), (xH (xM HO335.out (fun _ hk => ⟨hk.1.1.1.1.1.2, ⟨hk.1.1.1.1.2, ⟨hk.1.1.1.2, ⟨hk.1.1.2, ⟨hk.1.2, ⟨hk.2, hk.1.1.1.1.1.1⟩⟩⟩⟩⟩⟩))), (xH (xM HO338.out (fun _ hk => ⟨hk.1.1.1.1.1.2, ⟨hk.1.1.1.1.2, ⟨hk.1.1.1.2, ⟨hk.1.1.2, ⟨hk.1.2, ⟨hk.2, hk.1.1.1.1.1.1⟩⟩⟩⟩⟩⟩))), (yH BK301.out), (yH BK302.out), (yH BK321.out), (yH BK329.out), (yH BK340.out), GW340.out, GE340.out, NB301_340.out, NB340_301.out, NB302_340.out, NB340_302.out, NB321_340.out, NB340_321.out, NB329_340.out, NB340_329.out, (zH HB.out)⟩)
    ·skip
     refine box_step ?hg (N := 9) ?hd (cs := #[.int .i64 0, .slice none 0 0, .slice none 0 0]) (t := 24) ?hr ?_; (case hd => rfl); (case hg => rfl); (case hr => first | (go_simp; done) | (go_simp; rfl))
     intro gb340 hg w48 hbox hb
     replace HO307 := xK HO307.out hb
     replace HO310 := xK HO310.out hb
     replace HO316 := xK HO316.out hb
     replace HO319 := xK HO319.out hb
     replace HO325 := xK HO325.out hb
     replace HO328 := xK HO328.out hb
     have BK340 := aM (hbox)
     have GW340 := aM ((by rw [hg]; exact (zZ (zH HB.out)) : w.heap.size ≤ gb340))
     have GE340 := aM ((by rw [hg]; exact (zZ (zH HB.out)) : w.heap.size ≤ gb340))
     replace HB := aM (zT (zH HB.out) hb)
     have NB301_340 := nL BK301.out hg
     have NB340_301 := nR BK301.out hg
     replace BK301 := yK BK301.out hb
     have NB302_340 := nL BK302.out hg
     have NB340_302 := nR BK302.out hg
     replace BK302 := yK BK302.out hb
     have NB321_340 := nL BK321.out hg
     have NB340_321 := nR BK321.out hg
     replace BK321 := yK BK321.out hb
     have NB329_340 := nL BK329.out hg
     have NB340_329 := nR BK329.out hg
     replace BK329 := yK BK329.out hb
     clear hb hbox hg
     refine hK.out _ _ ⟨yc BK329.out 0, yc BK329.out 1, yc BK329.out 2, yc BK302.out 0, yc BK302.out 1⟩ (fun hHeld => ?_)
     clear hK K
     refine norm_ (a' := ?_) ?_ ?_
     rotate_left
     ·show Act.put _ (some 9) _ = _
      simp only [Act.put, qA, qB, qC, i64_w, i32_w]
      rfl
     refine one_ (i := 3) (N := some 35) #[tT,tT,tT,tT,fF,fF,fF,tT,fF,fF] rfl rfl (one_of HT_.out (by kernel_rfl)) (by decide) (fun K hK => ?_)
     refine gS Try.func31 (by kernel_rfl) rfl #[.agg #[.int .i64 t322, .slice Ao43 t323.length co43, .slice Ao44 t326.length co44], .agg #[.int .i64 t330, .int .i64 t331]] (by rfl) rfl rfl ?_
     with_reducible refine (impl_GiveRoom.calls k t322 _ _ t323 _ _ t326 t330 t331 t332 t333 t336 t339 _ ?side1 ?side2 ?side3 ?side4 A15.out).mono ?_
     (case side1 => repeat (first | exact (Kd.R_reads' HO325.out).2.2 | (with_reducible refine cA ?_ _) | (with_reducible refine cN ?_ _) | (with_reducible refine cD ?_)))
     (case side2 => exact (Kd.R_reads' HO325.out).2.1)
     (case side3 => repeat (first | exact (Kd.R_reads' HO328.out).2.2 | (with_reducible refine cA ?_ _) | (with_reducible refine cN ?_ _) | (with_reducible refine cD ?_)))
     (case side4 => exact (Kd.R_reads' HO328.out).2.1)
     rintro e w49 ⟨v334, v337, rfl, ho0, ho1, hb⟩
     refine ⟨_, rfl, ?_⟩
     have HO335 := aM (xL (Kd.R_new' (Kd.R_new' (Kd.R_new' (Kd.R_new' (Kd.R_new' (Kd.R_new' ho0 (Kd.R_lt (xH HO307.out))) (Kd.R_lt (xH HO310.out))) (Kd.R_lt (xH HO316.out))) (Kd.R_lt (xH HO319.out))) (Kd.R_lt (xH HO325.out))) (Kd.R_lt (xH HO328.out))) (zZ (zH HB.out)))
     have HO338 := aM (xL (Kd.R_new' (Kd.R_new' (Kd.R_new' (Kd.R_new' (Kd.R_new' (Kd.R_new' ho1 (Kd.R_lt (xH HO307.out))) (Kd.R_lt (xH HO310.out))) (Kd.R_lt (xH HO316.out))) (Kd.R_lt (xH HO319.out))) (Kd.R_lt (xH HO325.out))) (Kd.R_lt (xH HO328.out))) (zZ (zH HB.out)))
     replace HO307 := aM (xM (Kd.R_told (Kd.R_told (Kd.R_old (xH HO307.out) hb) (Kd.R_base ho0)) (Kd.R_base ho1)) (fun _ h_ => h_.1))
     replace HO310 := aM (xM (Kd.R_told (Kd.R_told (Kd.R_old (xH HO310.out) hb) (Kd.R_base ho0)) (Kd.R_base ho1)) (fun _ h_ => h_.1))
     replace HO316 := aM (xM (Kd.R_told (Kd.R_told (Kd.R_old (xH HO316.out) hb) (Kd.R_base ho0)) (Kd.R_base ho1)) (fun _ h_ => h_.1))
     replace HO319 := aM (xM (Kd.R_told (Kd.R_told (Kd.R_old (xH HO319.out) hb) (Kd.R_base ho0)) (Kd.R_base ho1)) (fun _ h_ => h_.1))
     replace HO325 := aM (xM (Kd.R_told (Kd.R_told (Kd.R_old (xH HO325.out) hb) (Kd.R_base ho0)) (Kd.R_base ho1)) (fun _ h_ => h_.1))
     replace HO328 := aM (xM (Kd.R_told (Kd.R_told (Kd.R_old (xH HO328.out) hb) (Kd.R_base ho0)) (Kd.R_base ho1)) (fun _ h_ => h_.1))
     replace BK301 := yK BK301.out hb
     replace BK302 := yK BK302.out hb
     replace BK321 := yK BK321.out hb
     replace BK329 := yK BK329.out hb
     replace BK340 := yK BK340.out hb
     replace HB := aM (zT (zH HB.out) hb)
     (try clear hb); (try clear ho0); (try clear ho1)
     refine hK.out _ _ ⟨yc BK329.out 0, yc BK329.out 1, yc BK329.out 2, yc BK302.out 0, yc BK302.out 1⟩ (fun hHeld => ?_)
     clear hK K
     refine norm_ (a' := ?_) ?_ ?_
     rotate_left
     ·show Act.put _ (some 35) _ = _
      simp only [Act.put, qA, qB, qC, i64_w, i32_w]
      rfl
     refine pure_ (i := 4) (N := some 31) (v := ?_) (a' := ?_) #[tT,tT,tT,tT,tT,fF,fF,tT,fF,fF] rfl rfl (any_of HT_.out (by kernel_rfl)) (fun _ _ _ h => h) (Or.inl ⟨by rfl, ?_⟩) ?_ ?_
     rotate_left
     ·intro w'
      go_simp
      with_reducible rfl
     rotate_left
     ·simp only [Act.put, qA, qB, qC, i64_w, i32_w]
      rfl
     refine pure_ (i := 5) (N := some 36) (v := ?_) (a' := ?_) #[tT,tT,tT,tT,tT,tT,fF,tT,fF,fF] rfl rfl (any_of HT_.out (by kernel_rfl)) (fun _ _ _ h => h) (Or.inl ⟨by rfl, ?_⟩) ?_ ?_
     rotate_left
     ·intro w'
      go_simp
      with_reducible rfl
     rotate_left
     ·simp only [Act.put, qA, qB, qC, i64_w, i32_w]
      rfl
     refine pure_ (i := 6) (N := some 37) (v := ?_) (a' := ?_) #[tT,tT,tT,tT,tT,tT,tT,tT,fF,fF] rfl rfl (any_of HT_.out (by kernel_rfl)) (fun _ _ _ h => h) (Or.inl ⟨by rfl, ?_⟩) ?_ ?_
     rotate_left
     ·intro w'
      go_simp
      with_reducible rfl
     rotate_left
     ·simp only [Act.put, qA, qB, qC, i64_w, i32_w]
      rfl
     exact norm_ (by simp only [putAll, Act.put, qA, qB, qC]) (hCont (v334, v337, gb340) _ ⟨hHeld, (xH (xM HO307.out (fun _ hk => ⟨hk.1.1.1, ⟨hk.1.1.2.1, ⟨hk.1.1.2.2.1, ⟨hk.1.1.2.2.2.1, ⟨hk.1.1.2.2.2.2, ⟨hk.1.2, hk.2⟩⟩⟩⟩⟩⟩))), (xH (xM HO310.out (fun _ hk => ⟨hk.1.1.1, ⟨hk.1.1.2.1, ⟨hk.1.1.2.2.1, ⟨hk.1.1.2.2.2.1, ⟨hk.1.1.2.2.2.2, ⟨hk.1.2, hk.2⟩⟩⟩⟩⟩⟩))), (xH (xM HO316.out (fun _ hk => ⟨hk.1.1.1, ⟨hk.1.1.2.1, ⟨hk.1.1.2.2.1, ⟨hk.1.1.2.2.2.1, ⟨hk.1.1.2.2.2.2, ⟨hk.1.2, hk.2⟩⟩⟩⟩⟩⟩))), (xH (xM HO319.out (fun _ hk => ⟨hk.1.1.1, ⟨hk.1.1.2.1, ⟨hk.1.1.2.2.1, ⟨hk.1.1.2.2.2.1, ⟨hk.1.1.2.2.2.2, ⟨hk.1.2, hk.2⟩⟩⟩⟩⟩⟩))), (xH (xM HO325.out (fun _ hk => ⟨hk.1.1.1, ⟨hk.1.1.2.1, ⟨hk.1.1.2.2.1, ⟨hk.1.1.2.2.2.1, ⟨hk.1.1.2.2.2.2, ⟨hk.1.2, hk.2⟩⟩⟩⟩⟩⟩))), (xH (xM HO328.out (fun _ hk => ⟨hk.1.1.1, ⟨hk.1.1.2.1, ⟨hk.1.1.2.2.1, ⟨hk.1.1.2.2.2.1, ⟨hk.1.1.2.2.2.2, ⟨hk.1.2, hk.2⟩⟩⟩⟩⟩⟩))), (xH (xM HO335.out (fun _ hk => ⟨hk.1.1.1.1.1.2, ⟨hk.1.1.1.1.2, ⟨hk.1.1.1.2, ⟨hk.1.1.2, ⟨hk.1.2, ⟨hk.2, hk.1.1.1.1.1.1⟩⟩⟩⟩⟩⟩))), (xH (xM HO338.out (fun _ hk => ⟨hk.1.1.1.1.1.2, ⟨hk.1.1.1.1.2, ⟨hk.1.1.1.2, ⟨hk.1.1.2, ⟨hk.1.2, ⟨hk.2, hk.1.1.1.1.1.1⟩⟩⟩⟩⟩⟩))), (yH BK301.out), (yH BK302.out), (yH BK321.out), (yH BK329.out), (yH BK340.out), GW340.out, GE340.out, NB301_340.out, NB340_301.out, NB302_340.out, NB340_302.out, NB321_340.out, NB340_321.out, NB329_340.out, NB340_329.out, (zH HB.out)⟩)
   ·skip
    refine box_step ?hg (N := 9) ?hd (cs := #[.int .i64 0, .slice none 0 0, .slice none 0 0]) (t := 24) ?hr ?_; (case hd => rfl); (case hg => rfl); (case hr => first | (go_simp; done) | (go_simp; rfl))
    intro gb340 hg w47 hbox hb
    replace HO307 := xK HO307.out hb
    replace HO310 := xK HO310.out hb
    replace HO316 := xK HO316.out hb
    replace HO319 := xK HO319.out hb
    replace HO325 := xK HO325.out hb
    replace HO328 := xK HO328.out hb
    have BK340 := aM (hbox)
    have GW340 := aM ((by rw [hg]; exact (zZ (zH HB.out)) : w.heap.size ≤ gb340))
    have GE340 := aM ((by rw [hg]; exact (zZ (zH HB.out)) : w.heap.size ≤ gb340))
    replace HB := aM (zT (zH HB.out) hb)
    have NB301_340 := nL BK301.out hg
    have NB340_301 := nR BK301.out hg
    replace BK301 := yK BK301.out hb
    have NB302_340 := nL BK302.out hg
    have NB340_302 := nR BK302.out hg
    replace BK302 := yK BK302.out hb
    have NB321_340 := nL BK321.out hg
    have NB340_321 := nR BK321.out hg
    replace BK321 := yK BK321.out hb
    have NB329_340 := nL BK329.out hg
    have NB340_329 := nR BK329.out hg
    replace BK329 := yK BK329.out hb
    clear hb hbox hg
    refine hK.out _ _ ⟨yc BK329.out 0, yc BK329.out 1, yc BK329.out 2, yc BK302.out 0, yc BK302.out 1⟩ (fun hHeld => ?_)
    clear hK K
    refine norm_ (a' := ?_) ?_ ?_
    rotate_left
    ·show Act.put _ (some 9) _ = _
     simp only [Act.put, qA, qB, qC, i64_w, i32_w]
     rfl
    refine one_ (i := 2) (N := some 34) #[tT,tT,tT,fF,fF,fF,fF,tT,fF,fF] rfl rfl (one_of HT_.out (by kernel_rfl)) (by decide) (fun K hK => ?_)
    refine gS Try.func30 (by kernel_rfl) rfl #[.agg #[.int .i64 a1_0, .int .i64 a1_1]] (by rfl) rfl rfl ?_
    with_reducible refine (laws_toExtent.calls a1_0 a1_1 t330 t331 _ A14.out).mono ?_
    rintro e w48 ⟨rfl, hb⟩
    refine ⟨_, rfl, ?_⟩
    replace HO307 := xK HO307.out hb
    replace HO310 := xK HO310.out hb
    replace HO316 := xK HO316.out hb
    replace HO319 := xK HO319.out hb
    replace HO325 := xK HO325.out hb
    replace HO328 := xK HO328.out hb
    replace BK301 := yK BK301.out hb
    replace BK302 := yK BK302.out hb
    replace BK321 := yK BK321.out hb
    replace BK329 := yK BK329.out hb
    replace BK340 := yK BK340.out hb
    replace HB := aM (zT (zH HB.out) hb)
    (try clear hb)
    refine hK.out _ _ ⟨yc BK329.out 0, yc BK329.out 1, yc BK329.out 2, yc BK302.out 0, yc BK302.out 1⟩ (fun hHeld => ?_)
    clear hK K
    refine norm_ (a' := ?_) ?_ ?_
    rotate_left
    ·show Act.put _ (some 34) _ = _
     simp only [Act.put, qA, qB, qC, i64_w, i32_w]
     rfl
    refine one_ (i := 3) (N := some 35) #[tT,tT,tT,tT,fF,fF,fF,tT,fF,fF] rfl rfl (one_of HT_.out (by kernel_rfl)) (by decide) (fun K hK => ?_)
    refine gS Try.func31 (by kernel_rfl) rfl #[.agg #[.int .i64 t322, .slice Ao43 t323.length co43, .slice Ao44 t326.length co44], .agg #[.int .i64 t330, .int .i64 t331]] (by rfl) rfl rfl ?_
    with_reducible refine (impl_GiveRoom.calls k t322 _ _ t323 _ _ t326 t330 t331 t332 t333 t336 t339 _ ?side1 ?side2 ?side3 ?side4 A15.out).mono ?_
    (case side1 => repeat (first | exact (Kd.R_reads' HO325.out).2.2 | (with_reducible refine cA ?_ _) | (with_reducible refine cN ?_ _) | (with_reducible refine cD ?_)))
    (case side2 => exact (Kd.R_reads' HO325.out).2.1)
    (case side3 => repeat (first | exact (Kd.R_reads' HO328.out).2.2 | (with_reducible refine cA ?_ _) | (with_reducible refine cN ?_ _) | (with_reducible refine cD ?_)))
    (case side4 => exact (Kd.R_reads' HO328.out).2.1)
    rintro e w49 ⟨v334, v337, rfl, ho0, ho1, hb⟩
    refine ⟨_, rfl, ?_⟩
    have HO335 := aM (xL (Kd.R_new' (Kd.R_new' (Kd.R_new' (Kd.R_new' (Kd.R_new' (Kd.R_new' ho0 (Kd.R_lt (xH HO307.out))) (Kd.R_lt (xH HO310.out))) (Kd.R_lt (xH HO316.out))) (Kd.R_lt (xH HO319.out))) (Kd.R_lt (xH HO325.out))) (Kd.R_lt (xH HO328.out))) (zZ (zH HB.out)))
    have HO338 := aM (xL (Kd.R_new' (Kd.R_new' (Kd.R_new' (Kd.R_new' (Kd.R_new' (Kd.R_new' ho1 (Kd.R_lt (xH HO307.out))) (Kd.R_lt (xH HO310.out))) (Kd.R_lt (xH HO316.out))) (Kd.R_lt (xH HO319.out))) (Kd.R_lt (xH HO325.out))) (Kd.R_lt (xH HO328.out))) (zZ (zH HB.out)))
    replace HO307 := aM (xM (Kd.R_told (Kd.R_told (Kd.R_old (xH HO307.out) hb) (Kd.R_base ho0)) (Kd.R_base ho1)) (fun _ h_ => h_.1))
    replace HO310 := aM (xM (Kd.R_told (Kd.R_told (Kd.R_old (xH HO310.out) hb) (Kd.R_base ho0)) (Kd.R_base ho1)) (fun _ h_ => h_.1))
    replace HO316 := aM (xM (Kd.R_told (Kd.R_told (Kd.R_old (xH HO316.out) hb) (Kd.R_base ho0)) (Kd.R_base ho1)) (fun _ h_ => h_.1))
    replace HO319 := aM (xM (Kd.R_told (Kd.R_told (Kd.R_old (xH HO319.out) hb) (Kd.R_base ho0)) (Kd.R_base ho1)) (fun _ h_ => h_.1))
    replace HO325 := aM (xM (Kd.R_told (Kd.R_told (Kd.R_old (xH HO325.out) hb) (Kd.R_base ho0)) (Kd.R_base ho1)) (fun _ h_ => h_.1))
    replace HO328 := aM (xM (Kd.R_told (Kd.R_told (Kd.R_old (xH HO328.out) hb) (Kd.R_base ho0)) (Kd.R_base ho1)) (fun _ h_ => h_.1))
    replace BK301 := yK BK301.out hb
    replace BK302 := yK BK302.out hb
    replace BK321 := yK BK321.out hb
    replace BK329 := yK BK329.out hb
    replace BK340 := yK BK340.out hb
    replace HB := aM (zT (zH HB.out) hb)
    (try clear hb); (try clear ho0); (try clear ho1)
    refine hK.out _ _ ⟨yc BK329.out 0, yc BK329.out 1, yc BK329.out 2, yc BK302.out 0, yc BK302.out 1⟩ (fun hHeld => ?_)
    clear hK K
    refine norm_ (a' := ?_) ?_ ?_
    rotate_left
    ·show Act.put _ (some 35) _ = _
     simp only [Act.put, qA, qB, qC, i64_w, i32_w]
     rfl
    refine pure_ (i := 4) (N := some 31) (v := ?_) (a' := ?_) #[tT,tT,tT,tT,tT,fF,fF,tT,fF,fF] rfl rfl (any_of HT_.out (by kernel_rfl)) (fun _ _ _ h => h) (Or.inl ⟨by rfl, ?_⟩) ?_ ?_
    rotate_left
    ·intro w'
     go_simp
     with_reducible rfl
    rotate_left
    ·simp only [Act.put, qA, qB, qC, i64_w, i32_w]
     rfl
    refine pure_ (i := 5) (N := some 36) (v := ?_) (a' := ?_) #[tT,tT,tT,tT,tT,tT,fF,tT,fF,fF] rfl rfl (any_of HT_.out (by kernel_rfl)) (fun _ _ _ h => h) (Or.inl ⟨by rfl, ?_⟩) ?_ ?_
    rotate_left
    ·intro w'
     go_simp
     with_reducible rfl
    rotate_left
    ·simp only [Act.put, qA, qB, qC, i64_w, i32_w]
     rfl
    refine pure_ (i := 6) (N := some 37) (v := ?_) (a' := ?_) #[tT,tT,tT,tT,tT,tT,tT,tT,fF,fF] rfl rfl (any_of HT_.out (by kernel_rfl)) (fun _ _ _ h => h) (Or.inl ⟨by rfl, ?_⟩) ?_ ?_
    rotate_left
    ·intro w'
     go_simp
     with_reducible rfl
    rotate_left
    ·simp only [Act.put, qA, qB, qC, i64_w, i32_w]
     rfl
    exact norm_ (by simp only [putAll, Act.put, qA, qB, qC]) (hCont (v334, v337, gb340) _ ⟨hHeld, (xH (xM HO307.out (fun _ hk => ⟨hk.1.1.1, ⟨hk.1.1.2.1, ⟨hk.1.1.2.2.1, ⟨hk.1.1.2.2.2.1, ⟨hk.1.1.2.2.2.2, ⟨hk.1.2, hk.2⟩⟩⟩⟩⟩⟩))), (xH (xM HO310.out (fun _ hk => ⟨hk.1.1.1, ⟨hk.1.1.2.1, ⟨hk.1.1.2.2.1, ⟨hk.1.1.2.2.2.1, ⟨hk.1.1.2.2.2.2, ⟨hk.1.2, hk.2⟩⟩⟩⟩⟩⟩))), (xH (xM HO316.out (fun _ hk => ⟨hk.1.1.1, ⟨hk.1.1.2.1, ⟨hk.1.1.2.2.1, ⟨hk.1.1.2.2.2.1, ⟨hk.1.1.2.2.2.2, ⟨hk.1.2, hk.2⟩⟩⟩⟩⟩⟩))), (xH (xM HO319.out (fun _ hk => ⟨hk.1.1.1, ⟨hk.1.1.2.1, ⟨hk.1.1.2.2.1, ⟨hk.1.1.2.2.2.1, ⟨hk.1.1.2.2.2.2, ⟨hk.1.2, hk.2⟩⟩⟩⟩⟩⟩))), (xH (xM HO325.out (fun _ hk => ⟨hk.1.1.1, ⟨hk.1.1.2.1, ⟨hk.1.1.2.2.1, ⟨hk.1.1.2.2.2.1, ⟨hk.1.1.2.2.2.2, ⟨hk.1.2, hk.2⟩⟩⟩⟩⟩⟩))), (xH (xM HO328.out (fun _ hk => ⟨hk.1.1.1, ⟨hk.1.1.2.1, ⟨hk.1.1.2.2.1, ⟨hk.1.1.2.2.2.1, ⟨hk.1.1.2.2.2.2, ⟨hk.1.2, hk.2⟩⟩⟩⟩⟩⟩))), (xH (xM HO335.out (fun _ hk => ⟨hk.1.1.1.1.1.2, ⟨hk.1.1.1.1.2, ⟨hk.1.1.1.2, ⟨hk.1.1.2, ⟨hk.1.2, ⟨hk.2, hk.1.1.1.1.1.1⟩⟩⟩⟩⟩⟩))), (xH (xM HO338.out (fun _ hk => ⟨hk.1.1.1.1.1.2, ⟨hk.1.1.1.1.2, ⟨hk.1.1.1.2, ⟨hk.1.1.2, ⟨hk.1.2, ⟨hk.2, hk.1.1.1.1.1.1⟩⟩⟩⟩⟩⟩))), (yH BK301.out), (yH BK302.out), (yH BK321.out), (yH BK329.out), (yH BK340.out), GW340.out, GE340.out, NB301_340.out, NB340_301.out, NB302_340.out, NB340_302.out, NB321_340.out, NB340_321.out, NB329_340.out, NB340_329.out, (zH HB.out)⟩)
  rintro ⟨v334, v337, gb340⟩ w50 ⟨hS_, h0_, h1_, h2_, h3_, h4_, h5_, h6_, h7_, h8_, h9_, h10_, h11_, h12_, h13_, h14_, h15_, h16_, h17_, h18_, h19_, h20_, h21_, h22_, h23_⟩
  (try dsimp only at h0_ h1_ h2_ h3_ h4_ h5_ h6_ h7_ h8_ h9_ h10_ h11_ h12_ h13_ h14_ h15_ h16_ h17_ h18_ h19_ h20_ h21_ h22_ h23_)
  have n0_ := aM h0_
  have n1_ := aM h1_
  have n2_ := aM h2_
  have n3_ := aM h3_
  have n4_ := aM h4_
  have n5_ := aM h5_
  have n6_ := aM h6_
  have n7_ := aM h7_
  have n8_ := aM h8_
  have n9_ := aM h9_
  have n10_ := aM h10_
  have n11_ := aM h11_
  have n12_ := aM h12_
  have n13_ := aM h13_
  have n14_ := aM h14_
  have n15_ := aM h15_
  have n16_ := aM h16_
  have n17_ := aM h17_
  have n18_ := aM h18_
  have n19_ := aM h19_
  have n20_ := aM h20_
  have n21_ := aM h21_
  have n22_ := aM h22_
  have n23_ := aM h23_
  clear HO307 HO310 HO316 HO319 HO325 HO328 BK301 BK302 BK321 BK329 HB h0_ h1_ h2_ h3_ h4_ h5_ h6_ h7_ h8_ h9_ h10_ h11_ h12_ h13_ h14_ h15_ h16_ h17_ h18_ h19_ h20_ h21_ h22_ h23_
  have HO307 := n0_
  have HO310 := n1_
  have HO316 := n2_
  have HO319 := n3_
  have HO325 := n4_
  have HO328 := n5_
  have HO335 := n6_
  have HO338 := n7_
  have BK301 := n8_
  have BK302 := n9_
  have BK321 := n10_
  have BK329 := n11_
  have BK340 := n12_
  have GW340 := n13_
  have GE340 := n14_
  have NB301_340 := n15_
  have NB340_301 := n16_
  have NB302_340 := n17_
  have NB340_302 := n18_
  have NB321_340 := n19_
  have NB340_321 := n20_
  have NB329_340 := n21_
  have NB340_329 := n22_
  have HB := n23_
  clear n0_ n1_ n2_ n3_ n4_ n5_ n6_ n7_ n8_ n9_ n10_ n11_ n12_ n13_ n14_ n15_ n16_ n17_ n18_ n19_ n20_ n21_ n22_ n23_
  have hHeld : w50.cell? ⟨gb329, 0, none⟩ = some (.int .i64 t322) ∧ w50.cell? ⟨gb329, 1, none⟩ = some (.slice Ao43 t323.length co43) ∧ w50.cell? ⟨gb329, 2, none⟩ = some (.slice Ao44 t326.length co44) ∧ w50.cell? ⟨gb302, 0, none⟩ = some (.int .i64 a1_0) ∧ w50.cell? ⟨gb302, 1, none⟩ = some (.int .i64 a1_1) := hS_
  obtain ⟨Ao52, co52, eo52⟩ := Kd.R_slice HO335.out
  (first | subst eo52 | obtain ⟨rfl, rfl⟩ := eI eo52)
  obtain ⟨Ao54, co54, eo54⟩ := Kd.R_slice HO338.out
  (first | subst eo54 | obtain ⟨rfl, rfl⟩ := eI eo54)
  refine norm_ (a' := ?_) ?_ ?_
  rotate_left
  ·simp only [putAll, Act.put, qA, qB, qC]
   rfl
  refine one_ (i := 8) (N := none) #[tT,tT,tT,tT,tT,tT,tT,tT,tT,fF] rfl rfl (one_of HT_.out (by kernel_rfl)) (by decide) (fun K hK => ?_)
  have hs51 : w50.cell? ⟨gb340, 0, none⟩ = some (.int .i64 0) := yc BK340.out 0
  have hfs51 := yZ BK340.out 0
  have hns51_0 := NB301_340.out
  have hns51_1 := NB302_340.out
  have hns51_2 := NB321_340.out
  have hns51_3 := NB329_340.out
  have hms51_0 := NB340_301.out
  have hms51_1 := NB340_302.out
  have hms51_2 := NB340_321.out
  have hms51_3 := NB340_329.out
  have hs53 : w50.cell? ⟨gb340, 1, none⟩ = some (.slice none 0 0) := yc BK340.out 1
  have hfs53 := yZ BK340.out 1
  have hns53_0 := NB301_340.out
  have hns53_1 := NB302_340.out
  have hns53_2 := NB321_340.out
  have hns53_3 := NB329_340.out
  have hms53_0 := NB340_301.out
  have hms53_1 := NB340_302.out
  have hms53_2 := NB340_321.out
  have hms53_3 := NB340_329.out
  have hs55 : w50.cell? ⟨gb340, 2, none⟩ = some (.slice none 0 0) := yc BK340.out 2
  have hfs55 := yZ BK340.out 2
  have hns55_0 := NB301_340.out
  have hns55_1 := NB302_340.out
  have hns55_2 := NB321_340.out
  have hns55_3 := NB329_340.out
  have hms55_0 := NB340_301.out
  have hms55_1 := NB340_302.out
  have hms55_2 := NB340_321.out
  have hms55_3 := NB340_329.out
  refine skip_ (w1 := ?_) (by rfl) rfl ?_ ?_
  rotate_left
  ·go_simp
   rfl
  refine hK.out _ _ ⟨((cell_far (p := ⟨gb340, _, none⟩) NB329_340.out _).trans (((cell_far (p := ⟨gb340, _, none⟩) NB329_340.out _).trans (((cell_far (p := ⟨gb340, _, none⟩) NB329_340.out _).trans (hHeld.1)))))), ((cell_far (p := ⟨gb340, _, none⟩) NB329_340.out _).trans (((cell_far (p := ⟨gb340, _, none⟩) NB329_340.out _).trans (((cell_far (p := ⟨gb340, _, none⟩) NB329_340.out _).trans (hHeld.2.1)))))), ((cell_far (p := ⟨gb340, _, none⟩) NB329_340.out _).trans (((cell_far (p := ⟨gb340, _, none⟩) NB329_340.out _).trans (((cell_far (p := ⟨gb340, _, none⟩) NB329_340.out _).trans (hHeld.2.2.1)))))), ((cell_far (p := ⟨gb340, _, none⟩) NB302_340.out _).trans (((cell_far (p := ⟨gb340, _, none⟩) NB302_340.out _).trans (((cell_far (p := ⟨gb340, _, none⟩) NB302_340.out _).trans (hHeld.2.2.2.1)))))), ((cell_far (p := ⟨gb340, _, none⟩) NB302_340.out _).trans (((cell_far (p := ⟨gb340, _, none⟩) NB302_340.out _).trans (((cell_far (p := ⟨gb340, _, none⟩) NB302_340.out _).trans (hHeld.2.2.2.2))))))⟩ (fun hHeld => ?_)
  clear hK K
  refine pure_ (i := 9) (N := some 10) (v := ?_) (a' := ?_) #[tT,tT,tT,tT,tT,tT,tT,tT,tT,tT] rfl rfl (any_of HT_.out (by kernel_rfl)) (fun _ _ _ h => h) (Or.inl ⟨by rfl, ?_⟩) ?_ ?_
  rotate_left
  ·intro w'
   go_simp
   with_reducible rfl
  rotate_left
  ·simp only [Act.put, qA, qB, qC, i64_w, i32_w]
   rfl
  refine done_ (done_of HT_.out (by kernel_rfl)) ?_
  go_upto_region 8 with (fail)
  go_cut [46] (fun v46 wc => ∃ (kq : Nat) (x46_15 : Bool), v46 = .bool x46_15 ∧ Aside0 (laws_FnExactGiveRoom.j0 kq t320 t339 x46_15 a0_0 l0_1 l0_2 a1_0 a1_1 t313 t314 t317 t322 t323 t326 t332 t333 t336 = some r) ∧ Aside0 (kq ≤ k) ∧ Aside0 (Kd.R k49 49 wc w.heap.size (fun k_ => some k_ ≠ oB Ao33 t317.length co33 ∧ some k_ ≠ oB Ao43 t323.length co43 ∧ some k_ ≠ oB Ao44 t326.length co44 ∧ some k_ ≠ oB Ao52 t333.length co52 ∧ some k_ ≠ oB Ao54 t336.length co54) (.slice Ao31 t314.length co31) t314) ∧ Aside0 (Kd.R k49 49 wc w.heap.size (fun k_ => some k_ ≠ oB Ao31 t314.length co31 ∧ some k_ ≠ oB Ao43 t323.length co43 ∧ some k_ ≠ oB Ao44 t326.length co44 ∧ some k_ ≠ oB Ao52 t333.length co52 ∧ some k_ ≠ oB Ao54 t336.length co54) (.slice Ao33 t317.length co33) t317) ∧ Aside0 (Kd.R k49 49 wc w.heap.size (fun k_ => some k_ ≠ oB Ao31 t314.length co31 ∧ some k_ ≠ oB Ao33 t317.length co33 ∧ some k_ ≠ oB Ao44 t326.length co44 ∧ some k_ ≠ oB Ao52 t333.length co52 ∧ some k_ ≠ oB Ao54 t336.length co54) (.slice Ao43 t323.length co43) t323) ∧ Aside0 (Kd.R k49 49 wc w.heap.size (fun k_ => some k_ ≠ oB Ao31 t314.length co31 ∧ some k_ ≠ oB Ao33 t317.length co33 ∧ some k_ ≠ oB Ao43 t323.length co43 ∧ some k_ ≠ oB Ao52 t333.length co52 ∧ some k_ ≠ oB Ao54 t336.length co54) (.slice Ao44 t326.length co44) t326) ∧ Aside0 (Kd.R k49 49 wc w.heap.size (fun k_ => some k_ ≠ oB Ao31 t314.length co31 ∧ some k_ ≠ oB Ao33 t317.length co33 ∧ some k_ ≠ oB Ao43 t323.length co43 ∧ some k_ ≠ oB Ao44 t326.length co44 ∧ some k_ ≠ oB Ao54 t336.length co54) (.slice Ao52 t333.length co52) t333) ∧ Aside0 (Kd.R k49 49 wc w.heap.size (fun k_ => some k_ ≠ oB Ao31 t314.length co31 ∧ some k_ ≠ oB Ao33 t317.length co33 ∧ some k_ ≠ oB Ao43 t323.length co43 ∧ some k_ ≠ oB Ao44 t326.length co44 ∧ some k_ ≠ oB Ao52 t333.length co52) (.slice Ao54 t336.length co54) t336) ∧ Aside0 (wc.heap[gb301]? = some (.cells #[.int .i64 a0_0, (.slice A0_1 l0_1.length c0_1), (.slice A0_2 l0_2.length c0_2)] 32 (0, 0))) ∧ Aside0 (wc.heap[gb302]? = some (.cells #[.int .i64 a1_0, .int .i64 a1_1] 47 (0, 0))) ∧ Aside0 (wc.heap[gb321]? = some (.cells #[.int .i64 t313, (.slice Ao31 t314.length co31), (.slice Ao33 t317.length co33)] 24 (0, 0))) ∧ Aside0 (wc.heap[gb329]? = some (.cells #[.int .i64 t322, (.slice Ao43 t323.length co43), (.slice Ao44 t326.length co44)] 24 (0, 0))) ∧ Aside0 (wc.heap[gb340]? = some (.cells #[.int .i64 t332, (.slice Ao52 t333.length co52), (.slice Ao54 t336.length co54)] 24 (0, 0))) ∧ Aside0 (Below w.heap.size w wc))
  case first =>
   have H := HC16.out
   clear HC16
   replace H := Option.bind_eq_some_iff.mp H
   obtain ⟨t341, A560, H⟩ := H
   replace H : (if t341 = true then (laws_FnExactGiveRoom.j0 k t320 t339 (t339 != t320) a0_0 l0_1 l0_2 a1_0 a1_1 t313 t314 t317 t322 t323 t326 t332 t333 t336) else (laws_FnExactGiveRoom.j0 k t320 t339 true a0_0 l0_1 l0_2 a1_0 a1_1 t313 t314 t317 t322 t323 t326 t332 t333 t336)) = some r := H
   have A56 := aM A560
   clear A560
   by_cases c57 : t341 = true
   ·subst c57
    have H1 : (laws_FnExactGiveRoom.j0 k t320 t339 (t339 != t320) a0_0 l0_1 l0_2 a1_0 a1_1 t313 t314 t317 t322 t323 t326 t332 t333 t336) = some r := by rw [if_pos rfl] at H; exact H
    clear H
    have H := H1
    clear H1
    have H' := aM H
    clear H
    have hnb58 := NB340_301.out
    have hnc58 := NB301_340.out
    have hnb59 := NB340_302.out
    have hnc59 := NB302_340.out
    have hnb60 := NB340_321.out
    have hnc60 := NB321_340.out
    have hnb61 := NB340_329.out
    have hnc61 := NB329_340.out
    have hcz62_0 : w50.cell? ⟨gb340, 0, none⟩ = some (.int .i64 0) := yc BK340.out 0
    have hcz62_1 : w50.cell? ⟨gb340, 1, none⟩ = some (.slice none 0 0) := yc BK340.out 1
    have hcz62_2 : w50.cell? ⟨gb340, 2, none⟩ = some (.slice none 0 0) := yc BK340.out 2
    have hfz62_0 := yZ BK340.out 0
    have hfz62_1 := yZ BK340.out 1
    have hfz62_2 := yZ BK340.out 2
    have hnb63 := NB321_301.out
    have hnc63 := NB301_321.out
    have hnb64 := NB321_302.out
    have hnc64 := NB302_321.out
    have hnb65 := NB321_329.out
    have hnc65 := NB329_321.out
    have hcz66_0 : w50.cell? ⟨gb321, 0, none⟩ = some (.int .i64 t313) := yc BK321.out 0
    have hcz66_1 : w50.cell? ⟨gb321, 1, none⟩ = some (.slice Ao31 t314.length co31) := yc BK321.out 1
    have hcz66_2 : w50.cell? ⟨gb321, 2, none⟩ = some (.slice Ao33 t317.length co33) := yc BK321.out 2
    have hfz66_0 := yZ BK321.out 0
    have hfz66_1 := yZ BK321.out 1
    have hfz66_2 := yZ BK321.out 2
    go_wp2_with (first | ((with_reducible refine gate_callee (f := 13) rfl ?_); refine goesL_ (some 40) rfl rfl Try.func13 (by kernel_rfl) rfl #[.agg #[.int .i64 t332, .slice Ao52 t333.length co52, .slice Ao54 t336.length co54], .agg #[.int .i64 t313, .slice Ao31 t314.length co31, .slice Ao33 t317.length co33]] rfl (by (try simp only [List.map_toArray, List.map_cons, List.map_nil]); first | done | rfl | (simp only [List.length_drop, List.length_take]; rfl)) ?_; (with_reducible refine (laws_eqFree.calls k t332 _ _ t333 _ _ t336 t313 _ _ t314 _ _ t317 true _ ?side1 ?side2 ?side3 ?side4 ?side5 ?side6 ?side7 ?side8 A56.out).mono ?_); (case side1 => exact rC (n := t333.length) (c := co52) ((x3 HO335.out BK340.out (by decide) (.int .i64 t332) (.slice Ao52 t333.length co52) (.slice Ao54 t336.length co54)))); (case side2 => exact (Kd.R_reads' HO335.out).2.1); (case side3 => exact rC (n := t336.length) (c := co54) ((x3 HO338.out BK340.out (by decide) (.int .i64 t332) (.slice Ao52 t333.length co52) (.slice Ao54 t336.length co54)))); (case side4 => exact (Kd.R_reads' HO338.out).2.1); (case side5 => exact rC (n := t314.length) (c := co31) ((x3 HO316.out BK340.out (by decide) (.int .i64 t332) (.slice Ao52 t333.length co52) (.slice Ao54 t336.length co54)))); (case side6 => exact (Kd.R_reads' HO316.out).2.1); (case side7 => exact rC (n := t317.length) (c := co33) ((x3 HO319.out BK340.out (by decide) (.int .i64 t332) (.slice Ao52 t333.length co52) (.slice Ao54 t336.length co54)))); (case side8 => exact (Kd.R_reads' HO319.out).2.1); rintro e w67 ⟨rfl, hb⟩; refine ⟨_, rfl, ?_⟩; replace HO307 := aM (xB (xH ((x3 HO307.out BK340.out (by decide) (.int .i64 t332) (.slice Ao52 t333.length co52) (.slice Ao54 t336.length co54)))) hb); replace HO310 := aM (xB (xH ((x3 HO310.out BK340.out (by decide) (.int .i64 t332) (.slice Ao52 t333.length co52) (.slice Ao54 t336.length co54)))) hb); replace HO316 := aM (xB (xH ((x3 HO316.out BK340.out (by decide) (.int .i64 t332) (.slice Ao52 t333.length co52) (.slice Ao54 t336.length co54)))) hb); replace HO319 := aM (xB (xH ((x3 HO319.out BK340.out (by decide) (.int .i64 t332) (.slice Ao52 t333.length co52) (.slice Ao54 t336.length co54)))) hb); replace HO325 := aM (xB (xH ((x3 HO325.out BK340.out (by decide) (.int .i64 t332) (.slice Ao52 t333.length co52) (.slice Ao54 t336.length co54)))) hb); replace HO328 := aM (xB (xH ((x3 HO328.out BK340.out (by decide) (.int .i64 t332) (.slice Ao52 t333.length co52) (.slice Ao54 t336.length co54)))) hb); replace HO335 := aM (xB (xH ((x3 HO335.out BK340.out (by decide) (.int .i64 t332) (.slice Ao52 t333.length co52) (.slice Ao54 t336.length co54)))) hb); replace HO338 := aM (xB (xH ((x3 HO338.out BK340.out (by decide) (.int .i64 t332) (.slice Ao52 t333.length co52) (.slice Ao54 t336.length co54)))) hb); replace BK301 := aM (yB (g := gb301) (o := .cells #[.int .i64 a0_0, .slice A0_1 l0_1.length c0_1, .slice A0_2 l0_2.length c0_2] 32 (0, 0)) (by (with_reducible repeat (first | refine yN ?_ _ | refine yD ?_ | refine yA ?_ _)); refine yF ?_ NB301_340.out _; (with_reducible repeat (first | refine yN ?_ _ | refine yD ?_ | refine yA ?_ _)); refine yF ?_ NB301_340.out _; (with_reducible repeat (first | refine yN ?_ _ | refine yD ?_ | refine yA ?_ _)); refine yF ?_ NB301_340.out _; (with_reducible repeat (first | refine yN ?_ _ | refine yD ?_ | refine yA ?_ _)); exact BK301.out) hb); replace BK302 := aM (yB (g := gb302) (o := .cells #[.int .i64 a1_0, .int .i64 a1_1] 47 (0, 0)) (by (with_reducible repeat (first | refine yN ?_ _ | refine yD ?_ | refine yA ?_ _)); refine yF ?_ NB302_340.out _; (with_reducible repeat (first | refine yN ?_ _ | refine yD ?_ | refine yA ?_ _)); refine yF ?_ NB302_340.out _; (with_reducible repeat (first | refine yN ?_ _ | refine yD ?_ | refine yA ?_ _)); refine yF ?_ NB302_340.out _; (with_reducible repeat (first | refine yN ?_ _ | refine yD ?_ | refine yA ?_ _)); exact BK302.out) hb); replace BK321 := aM (yB (g := gb321) (o := .cells #[.int .i64 t313, .slice Ao31 t314.length co31, .slice Ao33 t317.length co33] 24 (0, 0)) (by (with_reducible repeat (first | refine yN ?_ _ | refine yD ?_ | refine yA ?_ _)); refine yF ?_ NB321_340.out _; (with_reducible repeat (first | refine yN ?_ _ | refine yD ?_ | refine yA ?_ _)); refine yF ?_ NB321_340.out _; (with_reducible repeat (first | refine yN ?_ _ | refine yD ?_ | refine yA ?_ _)); refine yF ?_ NB321_340.out _; (with_reducible repeat (first | refine yN ?_ _ | refine yD ?_ | refine yA ?_ _)); exact BK321.out) hb); replace BK329 := aM (yB (g := gb329) (o := .cells #[.int .i64 t322, .slice Ao43 t323.length co43, .slice Ao44 t326.length co44] 24 (0, 0)) (by (with_reducible repeat (first | refine yN ?_ _ | refine yD ?_ | refine yA ?_ _)); refine yF ?_ NB329_340.out _; (with_reducible repeat (first | refine yN ?_ _ | refine yD ?_ | refine yA ?_ _)); refine yF ?_ NB329_340.out _; (with_reducible repeat (first | refine yN ?_ _ | refine yD ?_ | refine yA ?_ _)); refine yF ?_ NB329_340.out _; (with_reducible repeat (first | refine yN ?_ _ | refine yD ?_ | refine yA ?_ _)); exact BK329.out) hb); replace BK340 := aM (yB (g := gb340) (o := .cells #[.int .i64 t332, .slice Ao52 t333.length co52, .slice Ao54 t336.length co54] 24 (0, 0)) (by (with_reducible repeat (first | refine yN ?_ _ | refine yD ?_ | refine yA ?_ _)); refine yP (cs := #[.int .i64 t332, .slice Ao52 t333.length co52, .slice none 0 0]) ?_ 2 _ rfl; (with_reducible repeat (first | refine yN ?_ _ | refine yD ?_ | refine yA ?_ _)); refine yP (cs := #[.int .i64 t332, .slice none 0 0, .slice none 0 0]) ?_ 1 _ rfl; (with_reducible repeat (first | refine yN ?_ _ | refine yD ?_ | refine yA ?_ _)); refine yP (cs := #[.int .i64 0, .slice none 0 0, .slice none 0 0]) ?_ 0 _ rfl; (with_reducible repeat (first | refine yN ?_ _ | refine yD ?_ | refine yA ?_ _)); exact BK340.out) hb); replace HB := aM (zT (zH HB.out) hb); (try clear hb)))
    go_meet
    case rel => exact ⟨_, ((t339 != t320)), (by first | rfl | (simp; done) | (simp [*]; done)), H', ⟨by first | omega | exact Nat.le_refl _⟩, ⟨xH (xM HO316.out (fun _ hk => ⟨hk.2.2.1, ⟨hk.2.2.2.1, ⟨hk.2.2.2.2.1, ⟨hk.2.2.2.2.2.1, hk.2.2.2.2.2.2⟩⟩⟩⟩))⟩, ⟨xH (xM HO319.out (fun _ hk => ⟨hk.2.2.1, ⟨hk.2.2.2.1, ⟨hk.2.2.2.2.1, ⟨hk.2.2.2.2.2.1, hk.2.2.2.2.2.2⟩⟩⟩⟩))⟩, ⟨xH (xM HO325.out (fun _ hk => ⟨hk.2.2.1, ⟨hk.2.2.2.1, ⟨hk.2.2.2.2.1, ⟨hk.2.2.2.2.2.1, hk.2.2.2.2.2.2⟩⟩⟩⟩))⟩, ⟨xH (xM HO328.out (fun _ hk => ⟨hk.2.2.1, ⟨hk.2.2.2.1, ⟨hk.2.2.2.2.1, ⟨hk.2.2.2.2.2.1, hk.2.2.2.2.2.2⟩⟩⟩⟩))⟩, ⟨xH (xM HO335.out (fun _ hk => ⟨hk.2.2.1, ⟨hk.2.2.2.1, ⟨hk.2.2.2.2.1, ⟨hk.2.2.2.2.2.1, hk.2.2.2.2.2.2⟩⟩⟩⟩))⟩, ⟨xH (xM HO338.out (fun _ hk => ⟨hk.2.2.1, ⟨hk.2.2.2.1, ⟨hk.2.2.2.2.1, ⟨hk.2.2.2.2.2.1, hk.2.2.2.2.2.2⟩⟩⟩⟩))⟩, ⟨yH BK301.out⟩, ⟨yH BK302.out⟩, ⟨yH BK321.out⟩, ⟨yH BK329.out⟩, ⟨yH BK340.out⟩, ⟨zH HB.out⟩⟩
   ·replace c57 := Bool.eq_false_iff.mpr c57
    subst c57
    have H1 : (laws_FnExactGiveRoom.j0 k t320 t339 true a0_0 l0_1 l0_2 a1_0 a1_1 t313 t314 t317 t322 t323 t326 t332 t333 t336) = some r := by rw [if_neg (show ¬ (false = true) by decide)] at H; exact H
    clear H
    have H := H1
    clear H1
    have H' := aM H
    clear H
    have hnb68 := NB340_301.out
    have hnc68 := NB301_340.out
    have hnb69 := NB340_302.out
    have hnc69 := NB302_340.out
    have hnb70 := NB340_321.out
    have hnc70 := NB321_340.out
    have hnb71 := NB340_329.out
    have hnc71 := NB329_340.out
    have hcz72_0 : w50.cell? ⟨gb340, 0, none⟩ = some (.int .i64 0) := yc BK340.out 0
    have hcz72_1 : w50.cell? ⟨gb340, 1, none⟩ = some (.slice none 0 0) := yc BK340.out 1
    have hcz72_2 : w50.cell? ⟨gb340, 2, none⟩ = some (.slice none 0 0) := yc BK340.out 2
    have hfz72_0 := yZ BK340.out 0
    have hfz72_1 := yZ BK340.out 1
    have hfz72_2 := yZ BK340.out 2
    have hnb73 := NB321_301.out
    have hnc73 := NB301_321.out
    have hnb74 := NB321_302.out
    have hnc74 := NB302_321.out
    have hnb75 := NB321_329.out
    have hnc75 := NB329_321.out
    have hcz76_0 : w50.cell? ⟨gb321, 0, none⟩ = some (.int .i64 t313) := yc BK321.out 0
    have hcz76_1 : w50.cell? ⟨gb321, 1, none⟩ = some (.slice Ao31 t314.length co31) := yc BK321.out 1
    have hcz76_2 : w50.cell? ⟨gb321, 2, none⟩ = some (.slice Ao33 t317.length co33) := yc BK321.out 2
    have hfz76_0 := yZ BK321.out 0
    have hfz76_1 := yZ BK321.out 1
    have hfz76_2 := yZ BK321.out 2
    go_wp2_with (first | ((with_reducible refine gate_callee (f := 13) rfl ?_); refine goesL_ (some 40) rfl rfl Try.func13 (by kernel_rfl) rfl #[.agg #[.int .i64 t332, .slice Ao52 t333.length co52, .slice Ao54 t336.length co54], .agg #[.int .i64 t313, .slice Ao31 t314.length co31, .slice Ao33 t317.length co33]] rfl (by (try simp only [List.map_toArray, List.map_cons, List.map_nil]); first | done | rfl | (simp only [List.length_drop, List.length_take]; rfl)) ?_; (with_reducible refine (laws_eqFree.calls k t332 _ _ t333 _ _ t336 t313 _ _ t314 _ _ t317 false _ ?side1 ?side2 ?side3 ?side4 ?side5 ?side6 ?side7 ?side8 A56.out).mono ?_); (case side1 => exact rC (n := t333.length) (c := co52) ((x3 HO335.out BK340.out (by decide) (.int .i64 t332) (.slice Ao52 t333.length co52) (.slice Ao54 t336.length co54)))); (case side2 => exact (Kd.R_reads' HO335.out).2.1); (case side3 => exact rC (n := t336.length) (c := co54) ((x3 HO338.out BK340.out (by decide) (.int .i64 t332) (.slice Ao52 t333.length co52) (.slice Ao54 t336.length co54)))); (case side4 => exact (Kd.R_reads' HO338.out).2.1); (case side5 => exact rC (n := t314.length) (c := co31) ((x3 HO316.out BK340.out (by decide) (.int .i64 t332) (.slice Ao52 t333.length co52) (.slice Ao54 t336.length co54)))); (case side6 => exact (Kd.R_reads' HO316.out).2.1); (case side7 => exact rC (n := t317.length) (c := co33) ((x3 HO319.out BK340.out (by decide) (.int .i64 t332) (.slice Ao52 t333.length co52) (.slice Ao54 t336.length co54)))); (case side8 => exact (Kd.R_reads' HO319.out).2.1); rintro e w77 ⟨rfl, hb⟩; refine ⟨_, rfl, ?_⟩; replace HO307 := aM (xB (xH ((x3 HO307.out BK340.out (by decide) (.int .i64 t332) (.slice Ao52 t333.length co52) (.slice Ao54 t336.length co54)))) hb); replace HO310 := aM (xB (xH ((x3 HO310.out BK340.out (by decide) (.int .i64 t332) (.slice Ao52 t333.length co52) (.slice Ao54 t336.length co54)))) hb); replace HO316 := aM (xB (xH ((x3 HO316.out BK340.out (by decide) (.int .i64 t332) (.slice Ao52 t333.length co52) (.slice Ao54 t336.length co54)))) hb); replace HO319 := aM (xB (xH ((x3 HO319.out BK340.out (by decide) (.int .i64 t332) (.slice Ao52 t333.length co52) (.slice Ao54 t336.length co54)))) hb); replace HO325 := aM (xB (xH ((x3 HO325.out BK340.out (by decide) (.int .i64 t332) (.slice Ao52 t333.length co52) (.slice Ao54 t336.length co54)))) hb); replace HO328 := aM (xB (xH ((x3 HO328.out BK340.out (by decide) (.int .i64 t332) (.slice Ao52 t333.length co52) (.slice Ao54 t336.length co54)))) hb); replace HO335 := aM (xB (xH ((x3 HO335.out BK340.out (by decide) (.int .i64 t332) (.slice Ao52 t333.length co52) (.slice Ao54 t336.length co54)))) hb); replace HO338 := aM (xB (xH ((x3 HO338.out BK340.out (by decide) (.int .i64 t332) (.slice Ao52 t333.length co52) (.slice Ao54 t336.length co54)))) hb); replace BK301 := aM (yB (g := gb301) (o := .cells #[.int .i64 a0_0, .slice A0_1 l0_1.length c0_1, .slice A0_2 l0_2.length c0_2] 32 (0, 0)) (by (with_reducible repeat (first | refine yN ?_ _ | refine yD ?_ | refine yA ?_ _)); refine yF ?_ NB301_340.out _; (with_reducible repeat (first | refine yN ?_ _ | refine yD ?_ | refine yA ?_ _)); refine yF ?_ NB301_340.out _; (with_reducible repeat (first | refine yN ?_ _ | refine yD ?_ | refine yA ?_ _)); refine yF ?_ NB301_340.out _; (with_reducible repeat (first | refine yN ?_ _ | refine yD ?_ | refine yA ?_ _)); exact BK301.out) hb); replace BK302 := aM (yB (g := gb302) (o := .cells #[.int .i64 a1_0, .int .i64 a1_1] 47 (0, 0)) (by (with_reducible repeat (first | refine yN ?_ _ | refine yD ?_ | refine yA ?_ _)); refine yF ?_ NB302_340.out _; (with_reducible repeat (first | refine yN ?_ _ | refine yD ?_ | refine yA ?_ _)); refine yF ?_ NB302_340.out _; (with_reducible repeat (first | refine yN ?_ _ | refine yD ?_ | refine yA ?_ _)); refine yF ?_ NB302_340.out _; (with_reducible repeat (first | refine yN ?_ _ | refine yD ?_ | refine yA ?_ _)); exact BK302.out) hb); replace BK321 := aM (yB (g := gb321) (o := .cells #[.int .i64 t313, .slice Ao31 t314.length co31, .slice Ao33 t317.length co33] 24 (0, 0)) (by (with_reducible repeat (first | refine yN ?_ _ | refine yD ?_ | refine yA ?_ _)); refine yF ?_ NB321_340.out _; (with_reducible repeat (first | refine yN ?_ _ | refine yD ?_ | refine yA ?_ _)); refine yF ?_ NB321_340.out _; (with_reducible repeat (first | refine yN ?_ _ | refine yD ?_ | refine yA ?_ _)); refine yF ?_ NB321_340.out _; (with_reducible repeat (first | refine yN ?_ _ | refine yD ?_ | refine yA ?_ _)); exact BK321.out) hb); replace BK329 := aM (yB (g := gb329) (o := .cells #[.int .i64 t322, .slice Ao43 t323.length co43, .slice Ao44 t326.length co44] 24 (0, 0)) (by (with_reducible repeat (first | refine yN ?_ _ | refine yD ?_ | refine yA ?_ _)); refine yF ?_ NB329_340.out _; (with_reducible repeat (first | refine yN ?_ _ | refine yD ?_ | refine yA ?_ _)); refine yF ?_ NB329_340.out _; (with_reducible repeat (first | refine yN ?_ _ | refine yD ?_ | refine yA ?_ _)); refine yF ?_ NB329_340.out _; (with_reducible repeat (first | refine yN ?_ _ | refine yD ?_ | refine yA ?_ _)); exact BK329.out) hb); replace BK340 := aM (yB (g := gb340) (o := .cells #[.int .i64 t332, .slice Ao52 t333.length co52, .slice Ao54 t336.length co54] 24 (0, 0)) (by (with_reducible repeat (first | refine yN ?_ _ | refine yD ?_ | refine yA ?_ _)); refine yP (cs := #[.int .i64 t332, .slice Ao52 t333.length co52, .slice none 0 0]) ?_ 2 _ rfl; (with_reducible repeat (first | refine yN ?_ _ | refine yD ?_ | refine yA ?_ _)); refine yP (cs := #[.int .i64 t332, .slice none 0 0, .slice none 0 0]) ?_ 1 _ rfl; (with_reducible repeat (first | refine yN ?_ _ | refine yD ?_ | refine yA ?_ _)); refine yP (cs := #[.int .i64 0, .slice none 0 0, .slice none 0 0]) ?_ 0 _ rfl; (with_reducible repeat (first | refine yN ?_ _ | refine yD ?_ | refine yA ?_ _)); exact BK340.out) hb); replace HB := aM (zT (zH HB.out) hb); (try clear hb)))
    go_meet
    case rel => exact ⟨_, (true), (by first | rfl | (simp; done) | (simp [*]; done)), H', ⟨by first | omega | exact Nat.le_refl _⟩, ⟨xH (xM HO316.out (fun _ hk => ⟨hk.2.2.1, ⟨hk.2.2.2.1, ⟨hk.2.2.2.2.1, ⟨hk.2.2.2.2.2.1, hk.2.2.2.2.2.2⟩⟩⟩⟩))⟩, ⟨xH (xM HO319.out (fun _ hk => ⟨hk.2.2.1, ⟨hk.2.2.2.1, ⟨hk.2.2.2.2.1, ⟨hk.2.2.2.2.2.1, hk.2.2.2.2.2.2⟩⟩⟩⟩))⟩, ⟨xH (xM HO325.out (fun _ hk => ⟨hk.2.2.1, ⟨hk.2.2.2.1, ⟨hk.2.2.2.2.1, ⟨hk.2.2.2.2.2.1, hk.2.2.2.2.2.2⟩⟩⟩⟩))⟩, ⟨xH (xM HO328.out (fun _ hk => ⟨hk.2.2.1, ⟨hk.2.2.2.1, ⟨hk.2.2.2.2.1, ⟨hk.2.2.2.2.2.1, hk.2.2.2.2.2.2⟩⟩⟩⟩))⟩, ⟨xH (xM HO335.out (fun _ hk => ⟨hk.2.2.1, ⟨hk.2.2.2.1, ⟨hk.2.2.2.2.1, ⟨hk.2.2.2.2.2.1, hk.2.2.2.2.2.2⟩⟩⟩⟩))⟩, ⟨xH (xM HO338.out (fun _ hk => ⟨hk.2.2.1, ⟨hk.2.2.2.1, ⟨hk.2.2.2.2.1, ⟨hk.2.2.2.2.2.1, hk.2.2.2.2.2.2⟩⟩⟩⟩))⟩, ⟨yH BK301.out⟩, ⟨yH BK302.out⟩, ⟨yH BK321.out⟩, ⟨yH BK329.out⟩, ⟨yH BK340.out⟩, ⟨zH HB.out⟩⟩
  case rest =>
   clear HC16
   (try clear c1); (try clear p2); (try clear c3); (try clear c5); (try clear c6); (try clear c7); (try clear c13); (try clear c30); (try clear c31); (try clear c57); (try clear c58); (try clear c59); (try clear c60); (try clear c61); (try clear c63); (try clear c64); (try clear c65); (try clear c68); (try clear c69); (try clear c70); (try clear c71); (try clear c73); (try clear c74); (try clear c75); (try clear hcz62_0); (try clear hcz62_1); (try clear hcz62_2); (try clear hcz66_0); (try clear hcz66_1); (try clear hcz66_2); (try clear hcz72_0); (try clear hcz72_1); (try clear hcz72_2); (try clear hcz76_0); (try clear hcz76_1); (try clear hcz76_2); (try clear hfz62_0); (try clear hfz62_1); (try clear hfz62_2); (try clear hfz66_0); (try clear hfz66_1); (try clear hfz66_2); (try clear hfz72_0); (try clear hfz72_1); (try clear hfz72_2); (try clear hfz76_0); (try clear hfz76_1); (try clear hfz76_2)
   obtain ⟨kq, x46_15, rfl, HA, HJ15, p0', p1', p2', p3', p4', p5', BK301, BK302, BK321, BK329, BK340, HB⟩ := hcut
   cases kq with
   | zero => exact absurd HA.out (fun h_ => by change none = some _ at h_; cases h_)
   | succ kj15 =>
    have H := HA.out
    clear HA
    simp only [laws_FnExactGiveRoom.j0] at H
    by_cases c78 : x46_15 = true
    ·subst c78
     have H1 : (some false) = some r := by rw [if_pos rfl] at H; exact H
     clear H
     have H := H1
     clear H1
     exact absurd (H.trans (congrArg some HR_.out)) (by decide)
    ·replace c78 := Bool.eq_false_iff.mpr c78
     subst c78
     have H1 : ((laws_toFree.f kj15 a0_0 l0_1 l0_2).bind fun bt342 => ((laws_eqFree.f kj15 t322 t323 t326 bt342.1 bt342.2.1 bt342.2.2).bind fun t349 => (if t349 = true then ((laws_markFree.f kj15 t322 t323 t326 1).bind fun bt350 => (if bt350.1 < 0 then (laws_FnExactGiveRoom.j1 kj15 t320 true a0_0 l0_1 l0_2 a1_0 a1_1 t313 t314 t317 t332 t333 t336) else ((laws_eqFree.f kj15 t332 t333 t336 t313 t314 t317).bind fun t353 => (if t353 = true then (laws_FnExactGiveRoom.j1 kj15 t320 (t339 != t320) a0_0 l0_1 l0_2 a1_0 a1_1 t313 t314 t317 t332 t333 t336) else (laws_FnExactGiveRoom.j1 kj15 t320 true a0_0 l0_1 l0_2 a1_0 a1_1 t313 t314 t317 t332 t333 t336))))) else (some false)))) = some r := by rw [if_neg (show ¬ (false = true) by decide)] at H; exact H
     clear H
     have H := H1
     clear H1
     replace H := Option.bind_eq_some_iff.mp H
     obtain ⟨⟨t342, t343, t346⟩, A790, H⟩ := H
     replace H : ((laws_eqFree.f kj15 t322 t323 t326 t342 t343 t346).bind fun t349 => (if t349 = true then ((laws_markFree.f kj15 t322 t323 t326 1).bind fun bt350 => (if bt350.1 < 0 then (laws_FnExactGiveRoom.j1 kj15 t320 true a0_0 l0_1 l0_2 a1_0 a1_1 t313 t314 t317 t332 t333 t336) else ((laws_eqFree.f kj15 t332 t333 t336 t313 t314 t317).bind fun t353 => (if t353 = true then (laws_FnExactGiveRoom.j1 kj15 t320 (t339 != t320) a0_0 l0_1 l0_2 a1_0 a1_1 t313 t314 t317 t332 t333 t336) else (laws_FnExactGiveRoom.j1 kj15 t320 true a0_0 l0_1 l0_2 a1_0 a1_1 t313 t314 t317 t332 t333 t336))))) else (some false))) = some r := H
     have A79 := aM A790
     clear A790
     replace H := Option.bind_eq_some_iff.mp H
     obtain ⟨t349, A800, H⟩ := H
     replace H : (if t349 = true then ((laws_markFree.f kj15 t322 t323 t326 1).bind fun bt350 => (if bt350.1 < 0 then (laws_FnExactGiveRoom.j1 kj15 t320 true a0_0 l0_1 l0_2 a1_0 a1_1 t313 t314 t317 t332 t333 t336) else ((laws_eqFree.f kj15 t332 t333 t336 t313 t314 t317).bind fun t353 => (if t353 = true then (laws_FnExactGiveRoom.j1 kj15 t320 (t339 != t320) a0_0 l0_1 l0_2 a1_0 a1_1 t313 t314 t317 t332 t333 t336) else (laws_FnExactGiveRoom.j1 kj15 t320 true a0_0 l0_1 l0_2 a1_0 a1_1 t313 t314 t317 t332 t333 t336))))) else (some false)) = some r := H
     have A80 := aM A800
     clear A800
     by_cases c81 : t349 = true
     ·subst c81
      have H1 : ((laws_markFree.f kj15 t322 t323 t326 1).bind fun bt350 => (if bt350.1 < 0 then (laws_FnExactGiveRoom.j1 kj15 t320 true a0_0 l0_1 l0_2 a1_0 a1_1 t313 t314 t317 t332 t333 t336) else ((laws_eqFree.f kj15 t332 t333 t336 t313 t314 t317).bind fun t353 => (if t353 = true then (laws_FnExactGiveRoom.j1 kj15 t320 (t339 != t320) a0_0 l0_1 l0_2 a1_0 a1_1 t313 t314 t317 t332 t333 t336) else (laws_FnExactGiveRoom.j1 kj15 t320 true a0_0 l0_1 l0_2 a1_0 a1_1 t313 t314 t317 t332 t333 t336))))) = some r := by rw [if_pos rfl] at H; exact H
      clear H
      have H := H1
      clear H1
      replace H := Option.bind_eq_some_iff.mp H
      obtain ⟨⟨t350, t351, t352⟩, A820, H⟩ := H
      replace H : (if t350 < 0 then (laws_FnExactGiveRoom.j1 kj15 t320 true a0_0 l0_1 l0_2 a1_0 a1_1 t313 t314 t317 t332 t333 t336) else ((laws_eqFree.f kj15 t332 t333 t336 t313 t314 t317).bind fun t353 => (if t353 = true then (laws_FnExactGiveRoom.j1 kj15 t320 (t339 != t320) a0_0 l0_1 l0_2 a1_0 a1_1 t313 t314 t317 t332 t333 t336) else (laws_FnExactGiveRoom.j1 kj15 t320 true a0_0 l0_1 l0_2 a1_0 a1_1 t313 t314 t317 t332 t333 t336)))) = some r := H
      have A82 := aM A820
      clear A820
      have HC83 := aM H
      clear H
      try go_wp2
      replace p0' := aM (xD p0'.out)
      replace p1' := aM (xD p1'.out)
      replace p2' := aM (xD p2'.out)
      replace p3' := aM (xD p3'.out)
      replace p4' := aM (xD p4'.out)
      replace p5' := aM (xD p5'.out)
      replace BK301 := aM (yD BK301.out)
      replace BK302 := aM (yD BK302.out)
      replace BK321 := aM (yD BK321.out)
      replace BK329 := aM (yD BK329.out)
      replace BK340 := aM (yD BK340.out)
      replace HB := aM (zD HB.out)
      refine start_ (n := 5) (S := fun w' => w'.cell? ⟨gb329, 0, none⟩ = some (.int .i64 t322) ∧ w'.cell? ⟨gb329, 1, none⟩ = some (.slice Ao43 t323.length co43) ∧ w'.cell? ⟨gb329, 2, none⟩ = some (.slice Ao44 t326.length co44) ∧ w'.cell? ⟨gb301, 0, none⟩ = some (.int .i64 a0_0) ∧ w'.cell? ⟨gb301, 1, none⟩ = some (.slice A0_1 l0_1.length c0_1) ∧ w'.cell? ⟨gb301, 2, none⟩ = some (.slice A0_2 l0_2.length c0_2)) (ds := []) #[fF,fF,fF,fF,fF] (by kernel_rfl) rfl rfl ⟨yc BK329.out 0, yc BK329.out 1, yc BK329.out 2, yc BK301.out 0, yc BK301.out 1, yc BK301.out 2⟩ (fun hHeld => ?_)
      generalize wc.drew = w84 at p0' p1' p2' p3' p4' p5' BK301 BK302 BK321 BK329 BK340 HB hHeld ⊢
      refine take_ (i := 0) (N := some 47) (v := ?_) (a' := ?_) #[tT,fF,fF,fF,fF] rfl rfl (by kernel_rfl) (fun _ _ _ h => h) (Or.inl ⟨by rfl, ?_⟩) hHeld ?_ ?_
      rotate_left
      ·rintro w' ⟨s0, s1, s2, s3, s4, s5⟩
       go_simp
       with_reducible rfl
      rotate_left
      ·simp only [Act.put, qA, qB, qC, i64_w, i32_w]
       rfl
      refine take_ (i := 1) (N := some 48) (v := ?_) (a' := ?_) #[tT,tT,fF,fF,fF] rfl rfl (by kernel_rfl) (fun _ _ _ h => h) (Or.inl ⟨by rfl, ?_⟩) hHeld ?_ ?_
      rotate_left
      ·rintro w' ⟨s0, s1, s2, s3, s4, s5⟩
       go_simp
       with_reducible rfl
      rotate_left
      ·simp only [Act.put, qA, qB, qC, i64_w, i32_w]
       rfl
      refine one_ (i := 2) (N := some 49) #[tT,tT,tT,fF,fF] rfl rfl (by kernel_rfl) (by decide) (fun K hK => ?_)
      refine gS Try.func18 (by kernel_rfl) rfl #[.agg #[.int .i64 a0_0, .slice A0_1 l0_1.length c0_1, .slice A0_2 l0_2.length c0_2]] (by rfl) rfl rfl ?_
      with_reducible refine (laws_toFree.calls kj15 a0_0 _ _ l0_1 _ _ l0_2 t342 t343 t346 _ ?side1 ?side2 ?side3 ?side4 A79.out).mono ?_
      (case side1 => exact cK HR0_1.out HB.out)
      (case side2 => exact HC0_1.out)
      (case side3 => exact cK HR0_2.out HB.out)
      (case side4 => exact HC0_2.out)
      rintro e w85 ⟨v344, v347, rfl, ho0, ho1, hb⟩
      refine ⟨_, rfl, ?_⟩
      have HO345 := aM (xL (Kd.R_new' (Kd.R_new' (Kd.R_new' (Kd.R_new' (Kd.R_new' (Kd.R_new' ho0 (Kd.R_lt (xH p0'.out))) (Kd.R_lt (xH p1'.out))) (Kd.R_lt (xH p2'.out))) (Kd.R_lt (xH p3'.out))) (Kd.R_lt (xH p4'.out))) (Kd.R_lt (xH p5'.out))) (zZ (zH HB.out)))
      have HO348 := aM (xL (Kd.R_new' (Kd.R_new' (Kd.R_new' (Kd.R_new' (Kd.R_new' (Kd.R_new' ho1 (Kd.R_lt (xH p0'.out))) (Kd.R_lt (xH p1'.out))) (Kd.R_lt (xH p2'.out))) (Kd.R_lt (xH p3'.out))) (Kd.R_lt (xH p4'.out))) (Kd.R_lt (xH p5'.out))) (zZ (zH HB.out)))
      replace p0' := aM (xM (Kd.R_told (Kd.R_told (Kd.R_old (xH p0'.out) hb) (Kd.R_base ho0)) (Kd.R_base ho1)) (fun _ h_ => h_.1))
      replace p1' := aM (xM (Kd.R_told (Kd.R_told (Kd.R_old (xH p1'.out) hb) (Kd.R_base ho0)) (Kd.R_base ho1)) (fun _ h_ => h_.1))
      replace p2' := aM (xM (Kd.R_told (Kd.R_told (Kd.R_old (xH p2'.out) hb) (Kd.R_base ho0)) (Kd.R_base ho1)) (fun _ h_ => h_.1))
      replace p3' := aM (xM (Kd.R_told (Kd.R_told (Kd.R_old (xH p3'.out) hb) (Kd.R_base ho0)) (Kd.R_base ho1)) (fun _ h_ => h_.1))
      replace p4' := aM (xM (Kd.R_told (Kd.R_told (Kd.R_old (xH p4'.out) hb) (Kd.R_base ho0)) (Kd.R_base ho1)) (fun _ h_ => h_.1))
      replace p5' := aM (xM (Kd.R_told (Kd.R_told (Kd.R_old (xH p5'.out) hb) (Kd.R_base ho0)) (Kd.R_base ho1)) (fun _ h_ => h_.1))
      replace BK301 := yK BK301.out hb
      replace BK302 := yK BK302.out hb
      replace BK321 := yK BK321.out hb
      replace BK329 := yK BK329.out hb
      replace BK340 := yK BK340.out hb
      replace HB := aM (zT (zH HB.out) hb)
      (try clear hb); (try clear ho0); (try clear ho1)
      obtain ⟨Ao86, co86, eo86⟩ := Kd.R_slice HO345.out
      (first | subst eo86 | obtain ⟨rfl, rfl⟩ := eI eo86)
      obtain ⟨Ao87, co87, eo87⟩ := Kd.R_slice HO348.out
      (first | subst eo87 | obtain ⟨rfl, rfl⟩ := eI eo87)
      refine hK.out _ _ ⟨yc BK329.out 0, yc BK329.out 1, yc BK329.out 2, yc BK301.out 0, yc BK301.out 1, yc BK301.out 2⟩ (fun hHeld => ?_)
      clear hK K
      refine norm_ (a' := ?_) ?_ ?_
      rotate_left
      ·show Act.put _ (some 49) _ = _
       simp only [Act.put, qA, qB, qC, i64_w, i32_w]
       rfl
      refine one_ (i := 3) (N := some 50) #[tT,tT,tT,tT,fF] rfl rfl (by kernel_rfl) (by decide) (fun K hK => ?_)
      refine gS Try.func13 (by kernel_rfl) rfl #[.agg #[.int .i64 t322, .slice Ao43 t323.length co43, .slice Ao44 t326.length co44], .agg #[.int .i64 t342, .slice Ao86 t343.length co86, .slice Ao87 t346.length co87]] (by rfl) rfl rfl ?_
      with_reducible refine (laws_eqFree.calls kj15 t322 _ _ t323 _ _ t326 t342 _ _ t343 _ _ t346 true _ ?side1 ?side2 ?side3 ?side4 ?side5 ?side6 ?side7 ?side8 A80.out).mono ?_
      (case side1 => repeat (first | exact (Kd.R_reads' p2'.out).2.2 | (with_reducible refine cA ?_ _) | (with_reducible refine cN ?_ _) | (with_reducible refine cD ?_)))
      (case side2 => exact (Kd.R_reads' p2'.out).2.1)
      (case side3 => repeat (first | exact (Kd.R_reads' p3'.out).2.2 | (with_reducible refine cA ?_ _) | (with_reducible refine cN ?_ _) | (with_reducible refine cD ?_)))
      (case side4 => exact (Kd.R_reads' p3'.out).2.1)
      (case side5 => repeat (first | exact (Kd.R_reads' HO345.out).2.2 | (with_reducible refine cA ?_ _) | (with_reducible refine cN ?_ _) | (with_reducible refine cD ?_)))
      (case side6 => exact (Kd.R_reads' HO345.out).2.1)
      (case side7 => repeat (first | exact (Kd.R_reads' HO348.out).2.2 | (with_reducible refine cA ?_ _) | (with_reducible refine cN ?_ _) | (with_reducible refine cD ?_)))
      (case side8 => exact (Kd.R_reads' HO348.out).2.1)
      rintro e w88 ⟨rfl, hb⟩
      refine ⟨_, rfl, ?_⟩
      replace p0' := xK p0'.out hb
      replace p1' := xK p1'.out hb
      replace p2' := xK p2'.out hb
      replace p3' := xK p3'.out hb
      replace p4' := xK p4'.out hb
      replace p5' := xK p5'.out hb
      replace HO345 := xK HO345.out hb
      replace HO348 := xK HO348.out hb
      replace BK301 := yK BK301.out hb
      replace BK302 := yK BK302.out hb
      replace BK321 := yK BK321.out hb
      replace BK329 := yK BK329.out hb
      replace BK340 := yK BK340.out hb
      replace HB := aM (zT (zH HB.out) hb)
      (try clear hb)
      refine hK.out _ _ ⟨yc BK329.out 0, yc BK329.out 1, yc BK329.out 2, yc BK301.out 0, yc BK301.out 1, yc BK301.out 2⟩ (fun hHeld => ?_)
      clear hK K
      refine norm_ (a' := ?_) ?_ ?_
      rotate_left
      ·show Act.put _ (some 50) _ = _
       simp only [Act.put, qA, qB, qC, i64_w, i32_w]
       rfl
      refine pure_ (i := 4) (N := some 51) (v := ?_) (a' := ?_) #[tT,tT,tT,tT,tT] rfl rfl (by kernel_rfl) (fun _ _ _ h => h) (Or.inl ⟨by rfl, ?_⟩) ?_ ?_
      rotate_left
      ·intro w'
       go_simp
       with_reducible rfl
      rotate_left
      ·simp only [Act.put, qA, qB, qC, i64_w, i32_w]
       rfl
      refine done_ (by kernel_rfl) ?_
      have hnb89 := NB329_301.out
      have hnc89 := NB301_329.out
      have hnb90 := NB329_302.out
      have hnc90 := NB302_329.out
      have hnb91 := NB329_321.out
      have hnc91 := NB321_329.out
      have hnb92 := NB329_340.out
      have hnc92 := NB340_329.out
      have hcz93_0 : w88.cell? ⟨gb329, 0, none⟩ = some (.int .i64 t322) := yc BK329.out 0
      have hcz93_1 : w88.cell? ⟨gb329, 1, none⟩ = some (.slice Ao43 t323.length co43) := yc BK329.out 1
      have hcz93_2 : w88.cell? ⟨gb329, 2, none⟩ = some (.slice Ao44 t326.length co44) := yc BK329.out 2
      have hfz93_0 := yZ BK329.out 0
      have hfz93_1 := yZ BK329.out 1
      have hfz93_2 := yZ BK329.out 2
      go_upto_region 14 with (first | ((with_reducible refine gate_callee (f := 14) rfl ?_); refine goesL_ (some 54) rfl rfl Try.func14 (by kernel_rfl) rfl #[.agg #[.int .i64 t322, .slice Ao43 t323.length co43, .slice Ao44 t326.length co44], .int .i64 1] rfl (by (try simp only [List.map_toArray, List.map_cons, List.map_nil]); first | done | rfl | (simp only [List.length_drop, List.length_take]; rfl)) ?_; (with_reducible refine (laws_markFree.calls kj15 t322 (fun k_ => some k_ = oB Ao43 t323.length co43) (.slice Ao43 t323.length co43) t323 (fun k_ => some k_ = oB Ao44 t326.length co44) (.slice Ao44 t326.length co44) t326 1 t350 t351 t352 w _ ?side1 ?side2 ?side3 ?side4 ?side5 A82.out).mono ?_); (case side1 => repeat (first | (with_reducible first | exact HB.out | apply zA | apply zN | apply zD | refine zS ?_ GE301.out | refine zS ?_ GE302.out | refine zS ?_ GE321.out | refine zS ?_ GE329.out | refine zS ?_ GE340.out) | exact HB.out)); (case side2 => exact Kd.R_tight rfl p2'.out); (case side3 => exact fun k_ e_ => (p2'.out.1 k_ e_.symm).1.1.2.2.1); (case side4 => exact Kd.R_tight rfl p3'.out); (case side5 => exact fun k_ e_ => (p3'.out.1 k_ e_.symm).1.1.2.2.1); rintro e w94 ⟨rfl, hy0, hy1, hb, hkp⟩; refine ⟨_, rfl, ?_⟩; replace p0' := aM (xM (ok' := fun k_ => some k_ ≠ oB Ao33 t317.length co33 ∧ some k_ ≠ oB Ao43 t323.length co43 ∧ some k_ ≠ oB Ao44 t326.length co44 ∧ some k_ ≠ oB Ao52 t333.length co52 ∧ some k_ ≠ oB Ao54 t336.length co54 ∧ some k_ ≠ oB Ao86 t343.length co86 ∧ some k_ ≠ oB Ao87 t346.length co87) (Kd.R_keptB (p0'.out) hkp (fun k_ hk_ hs_ => Or.elim hs_ (fun e_ => (hk_.1.1.2.1) e_) (fun e_ => (hk_.1.1.2.2.1) e_))) (fun k_ hk_ => ⟨hk_.1.1.1.1, hk_.1.1.1.2.1, hk_.1.1.1.2.2.1, hk_.1.1.1.2.2.2.1, hk_.1.1.1.2.2.2.2, hk_.1.1.2, hk_.1.2⟩)); replace p1' := aM (xM (ok' := fun k_ => some k_ ≠ oB Ao31 t314.length co31 ∧ some k_ ≠ oB Ao43 t323.length co43 ∧ some k_ ≠ oB Ao44 t326.length co44 ∧ some k_ ≠ oB Ao52 t333.length co52 ∧ some k_ ≠ oB Ao54 t336.length co54 ∧ some k_ ≠ oB Ao86 t343.length co86 ∧ some k_ ≠ oB Ao87 t346.length co87) (Kd.R_keptB (p1'.out) hkp (fun k_ hk_ hs_ => Or.elim hs_ (fun e_ => (hk_.1.1.2.1) e_) (fun e_ => (hk_.1.1.2.2.1) e_))) (fun k_ hk_ => ⟨hk_.1.1.1.1, hk_.1.1.1.2.1, hk_.1.1.1.2.2.1, hk_.1.1.1.2.2.2.1, hk_.1.1.1.2.2.2.2, hk_.1.1.2, hk_.1.2⟩)); replace p4' := aM (xM (ok' := fun k_ => some k_ ≠ oB Ao31 t314.length co31 ∧ some k_ ≠ oB Ao33 t317.length co33 ∧ some k_ ≠ oB Ao43 t323.length co43 ∧ some k_ ≠ oB Ao44 t326.length co44 ∧ some k_ ≠ oB Ao54 t336.length co54 ∧ some k_ ≠ oB Ao86 t343.length co86 ∧ some k_ ≠ oB Ao87 t346.length co87) (Kd.R_keptB (p4'.out) hkp (fun k_ hk_ hs_ => Or.elim hs_ (fun e_ => (hk_.1.1.2.2.1) e_) (fun e_ => (hk_.1.1.2.2.2.1) e_))) (fun k_ hk_ => ⟨hk_.1.1.1.1, hk_.1.1.1.2.1, hk_.1.1.1.2.2.1, hk_.1.1.1.2.2.2.1, hk_.1.1.1.2.2.2.2, hk_.1.1.2, hk_.1.2⟩)); replace p5' := aM (xM (ok' := fun k_ => some k_ ≠ oB Ao31 t314.length co31 ∧ some k_ ≠ oB Ao33 t317.length co33 ∧ some k_ ≠ oB Ao43 t323.length co43 ∧ some k_ ≠ oB Ao44 t326.length co44 ∧ some k_ ≠ oB Ao52 t333.length co52 ∧ some k_ ≠ oB Ao86 t343.length co86 ∧ some k_ ≠ oB Ao87 t346.length co87) (Kd.R_keptB (p5'.out) hkp (fun k_ hk_ hs_ => Or.elim hs_ (fun e_ => (hk_.1.1.2.2.1) e_) (fun e_ => (hk_.1.1.2.2.2.1) e_))) (fun k_ hk_ => ⟨hk_.1.1.1.1, hk_.1.1.1.2.1, hk_.1.1.1.2.2.1, hk_.1.1.1.2.2.2.1, hk_.1.1.1.2.2.2.2, hk_.1.1.2, hk_.1.2⟩)); replace BK301 := aM (blk_kept BK301.out hkp (fun hs_ => Or.elim hs_ (fun e_ => (fun e_ => (Kd.R_ne p2'.out BK301.out (by decide)) e_) e_) (fun e_ => (fun e_ => (Kd.R_ne p3'.out BK301.out (by decide)) e_) e_))); replace BK302 := aM (blk_kept BK302.out hkp (fun hs_ => Or.elim hs_ (fun e_ => (fun e_ => (Kd.R_ne p2'.out BK302.out (by decide)) e_) e_) (fun e_ => (fun e_ => (Kd.R_ne p3'.out BK302.out (by decide)) e_) e_))); replace BK321 := aM (blk_kept BK321.out hkp (fun hs_ => Or.elim hs_ (fun e_ => (fun e_ => (Kd.R_ne p2'.out BK321.out (by decide)) e_) e_) (fun e_ => (fun e_ => (Kd.R_ne p3'.out BK321.out (by decide)) e_) e_))); replace BK329 := aM (blk_kept BK329.out hkp (fun hs_ => Or.elim hs_ (fun e_ => (fun e_ => (Kd.R_ne p2'.out BK329.out (by decide)) e_) e_) (fun e_ => (fun e_ => (Kd.R_ne p3'.out BK329.out (by decide)) e_) e_))); replace BK340 := aM (blk_kept BK340.out hkp (fun hs_ => Or.elim hs_ (fun e_ => (fun e_ => (Kd.R_ne p2'.out BK340.out (by decide)) e_) e_) (fun e_ => (fun e_ => (Kd.R_ne p3'.out BK340.out (by decide)) e_) e_))); replace p2' := aM (Kd.R_reok rfl hy0 (fun k_ e_ => p2'.out.1 k_ e_)); replace p3' := aM (Kd.R_reok rfl hy1 (fun k_ e_ => p3'.out.1 k_ e_)); replace HO345 := aM (xM (ok' := fun k_ => some k_ ≠ oB Ao31 t314.length co31 ∧ some k_ ≠ oB Ao33 t317.length co33 ∧ some k_ ≠ oB Ao43 t323.length co43 ∧ some k_ ≠ oB Ao44 t326.length co44 ∧ some k_ ≠ oB Ao52 t333.length co52 ∧ some k_ ≠ oB Ao54 t336.length co54 ∧ some k_ ≠ oB Ao87 t346.length co87) (Kd.R_keptB (HO345.out) hkp (fun k_ hk_ hs_ => Or.elim hs_ (fun e_ => (hk_.1.1.1.2) e_) (fun e_ => (hk_.1.1.2) e_))) (fun k_ hk_ => ⟨hk_.1.1.1.1.1.1.2, hk_.1.1.1.1.1.2, hk_.1.1.1.1.2, hk_.1.1.1.2, hk_.1.1.2, hk_.1.2, hk_.1.1.1.1.1.1.1⟩)); replace HO348 := aM (xM (ok' := fun k_ => some k_ ≠ oB Ao31 t314.length co31 ∧ some k_ ≠ oB Ao33 t317.length co33 ∧ some k_ ≠ oB Ao43 t323.length co43 ∧ some k_ ≠ oB Ao44 t326.length co44 ∧ some k_ ≠ oB Ao52 t333.length co52 ∧ some k_ ≠ oB Ao54 t336.length co54 ∧ some k_ ≠ oB Ao86 t343.length co86) (Kd.R_keptB (HO348.out) hkp (fun k_ hk_ hs_ => Or.elim hs_ (fun e_ => (hk_.1.1.1.2) e_) (fun e_ => (hk_.1.1.2) e_))) (fun k_ hk_ => ⟨hk_.1.1.1.1.1.1.2, hk_.1.1.1.1.1.2, hk_.1.1.1.1.2, hk_.1.1.1.2, hk_.1.1.2, hk_.1.2, hk_.1.1.1.1.1.1.1⟩)); replace HB := aM (hb); (try clear hb); (try clear hkp); (try clear hy0); (try clear hy1)))
      (try simp only [Act.put, qA, qB, qC])
      go_cut [67] (fun v67 wc => ∃ (kq : Nat) (x67_82 : Bool), v67 = .bool x67_82 ∧ Aside0 (laws_FnExactGiveRoom.j1 kq t320 x67_82 a0_0 l0_1 l0_2 a1_0 a1_1 t313 t314 t317 t332 t333 t336 = some r) ∧ Aside0 (kq ≤ kj15) ∧ Aside0 (Kd.R k49 49 wc w.heap.size (fun k_ => some k_ ≠ oB Ao33 t317.length co33 ∧ some k_ ≠ oB Ao43 t323.length co43 ∧ some k_ ≠ oB Ao44 t326.length co44 ∧ some k_ ≠ oB Ao52 t333.length co52 ∧ some k_ ≠ oB Ao54 t336.length co54) (.slice Ao31 t314.length co31) t314) ∧ Aside0 (Kd.R k49 49 wc w.heap.size (fun k_ => some k_ ≠ oB Ao31 t314.length co31 ∧ some k_ ≠ oB Ao43 t323.length co43 ∧ some k_ ≠ oB Ao44 t326.length co44 ∧ some k_ ≠ oB Ao52 t333.length co52 ∧ some k_ ≠ oB Ao54 t336.length co54) (.slice Ao33 t317.length co33) t317) ∧ Aside0 (Kd.R k49 49 wc w.heap.size (fun k_ => some k_ ≠ oB Ao31 t314.length co31 ∧ some k_ ≠ oB Ao33 t317.length co33 ∧ some k_ ≠ oB Ao44 t326.length co44 ∧ some k_ ≠ oB Ao52 t333.length co52 ∧ some k_ ≠ oB Ao54 t336.length co54) (.slice Ao43 t323.length co43) t351) ∧ Aside0 (Kd.R k49 49 wc w.heap.size (fun k_ => some k_ ≠ oB Ao31 t314.length co31 ∧ some k_ ≠ oB Ao33 t317.length co33 ∧ some k_ ≠ oB Ao43 t323.length co43 ∧ some k_ ≠ oB Ao52 t333.length co52 ∧ some k_ ≠ oB Ao54 t336.length co54) (.slice Ao44 t326.length co44) t352) ∧ Aside0 (Kd.R k49 49 wc w.heap.size (fun k_ => some k_ ≠ oB Ao31 t314.length co31 ∧ some k_ ≠ oB Ao33 t317.length co33 ∧ some k_ ≠ oB Ao43 t323.length co43 ∧ some k_ ≠ oB Ao44 t326.length co44 ∧ some k_ ≠ oB Ao54 t336.length co54) (.slice Ao52 t333.length co52) t333) ∧ Aside0 (Kd.R k49 49 wc w.heap.size (fun k_ => some k_ ≠ oB Ao31 t314.length co31 ∧ some k_ ≠ oB Ao33 t317.length co33 ∧ some k_ ≠ oB Ao43 t323.length co43 ∧ some k_ ≠ oB Ao44 t326.length co44 ∧ some k_ ≠ oB Ao52 t333.length co52) (.slice Ao54 t336.length co54) t336) ∧ Aside0 (wc.heap[gb301]? = some (.cells #[.int .i64 a0_0, (.slice A0_1 l0_1.length c0_1), (.slice A0_2 l0_2.length c0_2)] 32 (0, 0))) ∧ Aside0 (wc.heap[gb302]? = some (.cells #[.int .i64 a1_0, .int .i64 a1_1] 47 (0, 0))) ∧ Aside0 (wc.heap[gb321]? = some (.cells #[.int .i64 t313, (.slice Ao31 t314.length co31), (.slice Ao33 t317.length co33)] 24 (0, 0))) ∧ Aside0 (wc.heap[gb329]? = some (.cells #[.int .i64 t322, (.slice Ao43 t323.length co43), (.slice Ao44 t326.length co44)] 24 (0, 0))) ∧ Aside0 (wc.heap[gb340]? = some (.cells #[.int .i64 t332, (.slice Ao52 t333.length co52), (.slice Ao54 t336.length co54)] 24 (0, 0))) ∧ Aside0 (Below w.heap.size w wc))
      case first =>
       have H := HC83.out
       clear HC83
       by_cases c95 : t350 < 0
       ·rw [if_pos c95] at H
        have c95b0 : decide (t350 < 0) = true := decide_eq_true c95
        clear c95
        (first | rw [c95b0] | (simp only [i64_w, i32_w]; rw [c95b0]) | skip)
        have H' := aM H
        clear H
        go_wp2
        go_meet
        case rel => exact ⟨_, (true), (by first | rfl | (simp; done) | (simp [*]; done)), H', ⟨by have := HJ15.out; first | omega | exact Nat.le_refl _⟩, ⟨xH (xM p0'.out (fun _ hk => ⟨hk.1, ⟨hk.2.1, ⟨hk.2.2.1, ⟨hk.2.2.2.1, hk.2.2.2.2.1⟩⟩⟩⟩))⟩, ⟨xH (xM p1'.out (fun _ hk => ⟨hk.1, ⟨hk.2.1, ⟨hk.2.2.1, ⟨hk.2.2.2.1, hk.2.2.2.2.1⟩⟩⟩⟩))⟩, ⟨xH (xM p2'.out (fun _ hk => ⟨hk.1.1.1, ⟨hk.1.1.2.1, ⟨hk.1.1.2.2.1, ⟨hk.1.1.2.2.2.1, hk.1.1.2.2.2.2⟩⟩⟩⟩))⟩, ⟨xH (xM p3'.out (fun _ hk => ⟨hk.1.1.1, ⟨hk.1.1.2.1, ⟨hk.1.1.2.2.1, ⟨hk.1.1.2.2.2.1, hk.1.1.2.2.2.2⟩⟩⟩⟩))⟩, ⟨xH (xM p4'.out (fun _ hk => ⟨hk.1, ⟨hk.2.1, ⟨hk.2.2.1, ⟨hk.2.2.2.1, hk.2.2.2.2.1⟩⟩⟩⟩))⟩, ⟨xH (xM p5'.out (fun _ hk => ⟨hk.1, ⟨hk.2.1, ⟨hk.2.2.1, ⟨hk.2.2.2.1, hk.2.2.2.2.1⟩⟩⟩⟩))⟩, ⟨yH BK301.out⟩, ⟨yH BK302.out⟩, ⟨yH BK321.out⟩, ⟨yH BK329.out⟩, ⟨yH BK340.out⟩, ⟨zH HB.out⟩⟩
       ·rw [if_neg c95] at H
        have c95b0 : decide (t350 < 0) = false := decide_eq_false c95
        clear c95
        (first | rw [c95b0] | (simp only [i64_w, i32_w]; rw [c95b0]) | skip)
        replace H := Option.bind_eq_some_iff.mp H
        obtain ⟨t353, A960, H⟩ := H
        replace H : (if t353 = true then (laws_FnExactGiveRoom.j1 kj15 t320 (t339 != t320) a0_0 l0_1 l0_2 a1_0 a1_1 t313 t314 t317 t332 t333 t336) else (laws_FnExactGiveRoom.j1 kj15 t320 true a0_0 l0_1 l0_2 a1_0 a1_1 t313 t314 t317 t332 t333 t336)) = some r := H
        have A96 := aM A960
        clear A960
        by_cases c97 : t353 = true
        ·subst c97
         have H1 : (laws_FnExactGiveRoom.j1 kj15 t320 (t339 != t320) a0_0 l0_1 l0_2 a1_0 a1_1 t313 t314 t317 t332 t333 t336) = some r := by rw [if_pos rfl] at H; exact H
         clear H
         have H := H1
         clear H1
         have H' := aM H
         clear H
         have hnb98 := NB340_301.out
         have hnc98 := NB301_340.out
         have hnb99 := NB340_302.out
         have hnc99 := NB302_340.out
         have hnb100 := NB340_321.out
         have hnc100 := NB321_340.out
         have hnb101 := NB340_329.out
         have hnc101 := NB329_340.out
         have hcz102_0 : w94.cell? ⟨gb340, 0, none⟩ = some (.int .i64 t332) := yc BK340.out 0
         have hcz102_1 : w94.cell? ⟨gb340, 1, none⟩ = some (.slice Ao52 t333.length co52) := yc BK340.out 1
         have hcz102_2 : w94.cell? ⟨gb340, 2, none⟩ = some (.slice Ao54 t336.length co54) := yc BK340.out 2
         have hfz102_0 := yZ BK340.out 0
         have hfz102_1 := yZ BK340.out 1
         have hfz102_2 := yZ BK340.out 2
         have hnb103 := NB321_301.out
         have hnc103 := NB301_321.out
         have hnb104 := NB321_302.out
         have hnc104 := NB302_321.out
         have hnb105 := NB321_329.out
         have hnc105 := NB329_321.out
         have hcz106_0 : w94.cell? ⟨gb321, 0, none⟩ = some (.int .i64 t313) := yc BK321.out 0
         have hcz106_1 : w94.cell? ⟨gb321, 1, none⟩ = some (.slice Ao31 t314.length co31) := yc BK321.out 1
         have hcz106_2 : w94.cell? ⟨gb321, 2, none⟩ = some (.slice Ao33 t317.length co33) := yc BK321.out 2
         have hfz106_0 := yZ BK321.out 0
         have hfz106_1 := yZ BK321.out 1
         have hfz106_2 := yZ BK321.out 2
         go_wp2_with (first | (go_at_call 13; (with_reducible refine (laws_eqFree.calls kj15 t332 _ _ t333 _ _ t336 t313 _ _ t314 _ _ t317 true _ ?side1 ?side2 ?side3 ?side4 ?side5 ?side6 ?side7 ?side8 A96.out).mono ?_); (case side1 => repeat (first | exact (Kd.R_reads' p4'.out).2.2 | (with_reducible refine cA ?_ _) | (with_reducible refine cN ?_ _) | (with_reducible refine cD ?_))); (case side2 => exact (Kd.R_reads' p4'.out).2.1); (case side3 => repeat (first | exact (Kd.R_reads' p5'.out).2.2 | (with_reducible refine cA ?_ _) | (with_reducible refine cN ?_ _) | (with_reducible refine cD ?_))); (case side4 => exact (Kd.R_reads' p5'.out).2.1); (case side5 => repeat (first | exact (Kd.R_reads' p0'.out).2.2 | (with_reducible refine cA ?_ _) | (with_reducible refine cN ?_ _) | (with_reducible refine cD ?_))); (case side6 => exact (Kd.R_reads' p0'.out).2.1); (case side7 => repeat (first | exact (Kd.R_reads' p1'.out).2.2 | (with_reducible refine cA ?_ _) | (with_reducible refine cN ?_ _) | (with_reducible refine cD ?_))); (case side8 => exact (Kd.R_reads' p1'.out).2.1); rintro e w107 ⟨rfl, hb⟩; replace p0' := xK p0'.out hb; replace p1' := xK p1'.out hb; replace p2' := xK p2'.out hb; replace p3' := xK p3'.out hb; replace p4' := xK p4'.out hb; replace p5' := xK p5'.out hb; replace HO345 := xK HO345.out hb; replace HO348 := xK HO348.out hb; replace BK301 := yK BK301.out hb; replace BK302 := yK BK302.out hb; replace BK321 := yK BK321.out hb; replace BK329 := yK BK329.out hb; replace BK340 := yK BK340.out hb; replace HB := aM (zT (zH HB.out) hb); (try clear hb)))
         go_meet
         case rel => exact ⟨_, ((t339 != t320)), (by first | rfl | (simp; done) | (simp [*]; done)), H', ⟨by have := HJ15.out; first | omega | exact Nat.le_refl _⟩, ⟨xH (xM p0'.out (fun _ hk => ⟨hk.1, ⟨hk.2.1, ⟨hk.2.2.1, ⟨hk.2.2.2.1, hk.2.2.2.2.1⟩⟩⟩⟩))⟩, ⟨xH (xM p1'.out (fun _ hk => ⟨hk.1, ⟨hk.2.1, ⟨hk.2.2.1, ⟨hk.2.2.2.1, hk.2.2.2.2.1⟩⟩⟩⟩))⟩, ⟨xH (xM p2'.out (fun _ hk => ⟨hk.1.1.1, ⟨hk.1.1.2.1, ⟨hk.1.1.2.2.1, ⟨hk.1.1.2.2.2.1, hk.1.1.2.2.2.2⟩⟩⟩⟩))⟩, ⟨xH (xM p3'.out (fun _ hk => ⟨hk.1.1.1, ⟨hk.1.1.2.1, ⟨hk.1.1.2.2.1, ⟨hk.1.1.2.2.2.1, hk.1.1.2.2.2.2⟩⟩⟩⟩))⟩, ⟨xH (xM p4'.out (fun _ hk => ⟨hk.1, ⟨hk.2.1, ⟨hk.2.2.1, ⟨hk.2.2.2.1, hk.2.2.2.2.1⟩⟩⟩⟩))⟩, ⟨xH (xM p5'.out (fun _ hk => ⟨hk.1, ⟨hk.2.1, ⟨hk.2.2.1, ⟨hk.2.2.2.1, hk.2.2.2.2.1⟩⟩⟩⟩))⟩, ⟨yH BK301.out⟩, ⟨yH BK302.out⟩, ⟨yH BK321.out⟩, ⟨yH BK329.out⟩, ⟨yH BK340.out⟩, ⟨zH HB.out⟩⟩
        ·replace c97 := Bool.eq_false_iff.mpr c97
         subst c97
         have H1 : (laws_FnExactGiveRoom.j1 kj15 t320 true a0_0 l0_1 l0_2 a1_0 a1_1 t313 t314 t317 t332 t333 t336) = some r := by rw [if_neg (show ¬ (false = true) by decide)] at H; exact H
         clear H
         have H := H1
         clear H1
         have H' := aM H
         clear H
         have hnb108 := NB340_301.out
         have hnc108 := NB301_340.out
         have hnb109 := NB340_302.out
         have hnc109 := NB302_340.out
         have hnb110 := NB340_321.out
         have hnc110 := NB321_340.out
         have hnb111 := NB340_329.out
         have hnc111 := NB329_340.out
         have hcz112_0 : w94.cell? ⟨gb340, 0, none⟩ = some (.int .i64 t332) := yc BK340.out 0
         have hcz112_1 : w94.cell? ⟨gb340, 1, none⟩ = some (.slice Ao52 t333.length co52) := yc BK340.out 1
         have hcz112_2 : w94.cell? ⟨gb340, 2, none⟩ = some (.slice Ao54 t336.length co54) := yc BK340.out 2
         have hfz112_0 := yZ BK340.out 0
         have hfz112_1 := yZ BK340.out 1
         have hfz112_2 := yZ BK340.out 2
         have hnb113 := NB321_301.out
         have hnc113 := NB301_321.out
         have hnb114 := NB321_302.out
         have hnc114 := NB302_321.out
         have hnb115 := NB321_329.out
         have hnc115 := NB329_321.out
         have hcz116_0 : w94.cell? ⟨gb321, 0, none⟩ = some (.int .i64 t313) := yc BK321.out 0
         have hcz116_1 : w94.cell? ⟨gb321, 1, none⟩ = some (.slice Ao31 t314.length co31) := yc BK321.out 1
         have hcz116_2 : w94.cell? ⟨gb321, 2, none⟩ = some (.slice Ao33 t317.length co33) := yc BK321.out 2
         have hfz116_0 := yZ BK321.out 0
         have hfz116_1 := yZ BK321.out 1
         have hfz116_2 := yZ BK321.out 2
         go_wp2_with (first | (go_at_call 13; (with_reducible refine (laws_eqFree.calls kj15 t332 _ _ t333 _ _ t336 t313 _ _ t314 _ _ t317 false _ ?side1 ?side2 ?side3 ?side4 ?side5 ?side6 ?side7 ?side8 A96.out).mono ?_); (case side1 => repeat (first | exact (Kd.R_reads' p4'.out).2.2 | (with_reducible refine cA ?_ _) | (with_reducible refine cN ?_ _) | (with_reducible refine cD ?_))); (case side2 => exact (Kd.R_reads' p4'.out).2.1); (case side3 => repeat (first | exact (Kd.R_reads' p5'.out).2.2 | (with_reducible refine cA ?_ _) | (with_reducible refine cN ?_ _) | (with_reducible refine cD ?_))); (case side4 => exact (Kd.R_reads' p5'.out).2.1); (case side5 => repeat (first | exact (Kd.R_reads' p0'.out).2.2 | (with_reducible refine cA ?_ _) | (with_reducible refine cN ?_ _) | (with_reducible refine cD ?_))); (case side6 => exact (Kd.R_reads' p0'.out).2.1); (case side7 => repeat (first | exact (Kd.R_reads' p1'.out).2.2 | (with_reducible refine cA ?_ _) | (with_reducible refine cN ?_ _) | (with_reducible refine cD ?_))); (case side8 => exact (Kd.R_reads' p1'.out).2.1); rintro e w117 ⟨rfl, hb⟩; replace p0' := xK p0'.out hb; replace p1' := xK p1'.out hb; replace p2' := xK p2'.out hb; replace p3' := xK p3'.out hb; replace p4' := xK p4'.out hb; replace p5' := xK p5'.out hb; replace HO345 := xK HO345.out hb; replace HO348 := xK HO348.out hb; replace BK301 := yK BK301.out hb; replace BK302 := yK BK302.out hb; replace BK321 := yK BK321.out hb; replace BK329 := yK BK329.out hb; replace BK340 := yK BK340.out hb; replace HB := aM (zT (zH HB.out) hb); (try clear hb)))
         go_meet
         case rel => exact ⟨_, (true), (by first | rfl | (simp; done) | (simp [*]; done)), H', ⟨by have := HJ15.out; first | omega | exact Nat.le_refl _⟩, ⟨xH (xM p0'.out (fun _ hk => ⟨hk.1, ⟨hk.2.1, ⟨hk.2.2.1, ⟨hk.2.2.2.1, hk.2.2.2.2.1⟩⟩⟩⟩))⟩, ⟨xH (xM p1'.out (fun _ hk => ⟨hk.1, ⟨hk.2.1, ⟨hk.2.2.1, ⟨hk.2.2.2.1, hk.2.2.2.2.1⟩⟩⟩⟩))⟩, ⟨xH (xM p2'.out (fun _ hk => ⟨hk.1.1.1, ⟨hk.1.1.2.1, ⟨hk.1.1.2.2.1, ⟨hk.1.1.2.2.2.1, hk.1.1.2.2.2.2⟩⟩⟩⟩))⟩, ⟨xH (xM p3'.out (fun _ hk => ⟨hk.1.1.1, ⟨hk.1.1.2.1, ⟨hk.1.1.2.2.1, ⟨hk.1.1.2.2.2.1, hk.1.1.2.2.2.2⟩⟩⟩⟩))⟩, ⟨xH (xM p4'.out (fun _ hk => ⟨hk.1, ⟨hk.2.1, ⟨hk.2.2.1, ⟨hk.2.2.2.1, hk.2.2.2.2.1⟩⟩⟩⟩))⟩, ⟨xH (xM p5'.out (fun _ hk => ⟨hk.1, ⟨hk.2.1, ⟨hk.2.2.1, ⟨hk.2.2.2.1, hk.2.2.2.2.1⟩⟩⟩⟩))⟩, ⟨yH BK301.out⟩, ⟨yH BK302.out⟩, ⟨yH BK321.out⟩, ⟨yH BK329.out⟩, ⟨yH BK340.out⟩, ⟨zH HB.out⟩⟩
      case rest =>
       clear HC83
       (try clear c1); (try clear p2); (try clear c3); (try clear c5); (try clear c6); (try clear c7); (try clear c8); (try clear c9); (try clear c10); (try clear c11); (try clear c13); (try clear c14); (try clear c18); (try clear c30); (try clear c31); (try clear c57); (try clear c58); (try clear c59); (try clear c60); (try clear c61); (try clear c63); (try clear c64); (try clear c65); (try clear c68); (try clear c69); (try clear c70); (try clear c71); (try clear c73); (try clear c74); (try clear c75); (try clear c78); (try clear c81); (try clear c89); (try clear c90); (try clear c91); (try clear c92); (try clear c95); (try clear c95b0); (try clear c97); (try clear c98); (try clear c99); (try clear c100); (try clear c101); (try clear c103); (try clear c104); (try clear c105); (try clear c108); (try clear c109); (try clear c110); (try clear c111); (try clear c113); (try clear c114); (try clear c115); (try clear hcz102_0); (try clear hcz102_1); (try clear hcz102_2); (try clear hcz106_0); (try clear hcz106_1); (try clear hcz106_2); (try clear hcz112_0); (try clear hcz112_1); (try clear hcz112_2); (try clear hcz116_0); (try clear hcz116_1); (try clear hcz116_2); (try clear hcz62_0); (try clear hcz62_1); (try clear hcz62_2); (try clear hcz66_0); (try clear hcz66_1); (try clear hcz66_2); (try clear hcz72_0); (try clear hcz72_1); (try clear hcz72_2); (try clear hcz76_0); (try clear hcz76_1); (try clear hcz76_2); (try clear hcz93_0); (try clear hcz93_1); (try clear hcz93_2); (try clear hfz102_0); (try clear hfz102_1); (try clear hfz102_2); (try clear hfz106_0); (try clear hfz106_1); (try clear hfz106_2); (try clear hfz112_0); (try clear hfz112_1); (try clear hfz112_2); (try clear hfz116_0); (try clear hfz116_1); (try clear hfz116_2); (try clear hfz62_0); (try clear hfz62_1); (try clear hfz62_2); (try clear hfz66_0); (try clear hfz66_1); (try clear hfz66_2); (try clear hfz72_0); (try clear hfz72_1); (try clear hfz72_2); (try clear hfz76_0); (try clear hfz76_1); (try clear hfz76_2); (try clear hfz93_0); (try clear hfz93_1); (try clear hfz93_2); (try clear p2)
       obtain ⟨kq, x67_82, rfl, HA, HJ82, p0', p1', p2', p3', p4', p5', BK301, BK302, BK321, BK329, BK340, HB⟩ := hcut
       have hl330001_82 := (Kd.R_reads' p2'.out).1
       rw [hl330001_82] at p2'
       (try simp only [hl330001_82])
       (try simp only [hl330001_82] at BK301)
       (try simp only [hl330001_82] at BK302)
       (try simp only [hl330001_82] at BK321)
       (try simp only [hl330001_82] at BK329)
       (try simp only [hl330001_82] at BK340)
       (try simp only [hl330001_82] at p0')
       (try simp only [hl330001_82] at p1')
       (try simp only [hl330001_82] at p3')
       (try simp only [hl330001_82] at p4')
       (try simp only [hl330001_82] at p5')
       have hl330002_82 := (Kd.R_reads' p3'.out).1
       rw [hl330002_82] at p3'
       (try simp only [hl330002_82])
       (try simp only [hl330002_82] at BK301)
       (try simp only [hl330002_82] at BK302)
       (try simp only [hl330002_82] at BK321)
       (try simp only [hl330002_82] at BK329)
       (try simp only [hl330002_82] at BK340)
       (try simp only [hl330002_82] at p0')
       (try simp only [hl330002_82] at p1')
       (try simp only [hl330002_82] at p2')
       (try simp only [hl330002_82] at p4')
       (try simp only [hl330002_82] at p5')
       cases kq with
       | zero => exact absurd HA.out (fun h_ => by change none = some _ at h_; cases h_)
       | succ kj82 =>
        have H := HA.out
        clear HA
        simp only [laws_FnExactGiveRoom.j1] at H
        by_cases c118 : x67_82 = true
        ·subst c118
         have H1 : (some false) = some r := by rw [if_pos rfl] at H; exact H
         clear H
         have H := H1
         clear H1
         exact absurd (H.trans (congrArg some HR_.out)) (by decide)
        ·replace c118 := Bool.eq_false_iff.mpr c118
         subst c118
         have H1 : ((laws_markFree.f kj82 t332 t333 t336 1).bind fun bt354 => ((laws_heldFree.f kj82 t332 bt354.2.1 bt354.2.2 1).bind fun t357 => (if t357 < 0 then (some false) else (if t357 = bt354.1 then ((laws_toFree.f kj82 a0_0 l0_1 l0_2).bind fun bt358 => ((laws_toExtent.f a1_0 a1_1).bind fun bt365 => ((impl_GiveRoom.f kj82 bt358.1 bt358.2.1 bt358.2.2 bt365.1 bt365.2).bind fun bt367 => ((laws_eqFree.f kj82 bt367.1 bt367.2.1 bt367.2.2.1 t313 t314 t317).bind fun t376 => (if t376 = true then (laws_FnExactGiveRoom.j2 kj82 bt354.1 (bt367.2.2.2 != t320) t332 bt354.2.1 bt354.2.2) else (laws_FnExactGiveRoom.j2 kj82 bt354.1 true t332 bt354.2.1 bt354.2.2)))))) else (some false))))) = some r := by rw [if_neg (show ¬ (false = true) by decide)] at H; exact H
         clear H
         have H := H1
         clear H1
         replace H := Option.bind_eq_some_iff.mp H
         obtain ⟨⟨t354, t355, t356⟩, A1190, H⟩ := H
         replace H : ((laws_heldFree.f kj82 t332 t355 t356 1).bind fun t357 => (if t357 < 0 then (some false) else (if t357 = t354 then ((laws_toFree.f kj82 a0_0 l0_1 l0_2).bind fun bt358 => ((laws_toExtent.f a1_0 a1_1).bind fun bt365 => ((impl_GiveRoom.f kj82 bt358.1 bt358.2.1 bt358.2.2 bt365.1 bt365.2).bind fun bt367 => ((laws_eqFree.f kj82 bt367.1 bt367.2.1 bt367.2.2.1 t313 t314 t317).bind fun t376 => (if t376 = true then (laws_FnExactGiveRoom.j2 kj82 t354 (bt367.2.2.2 != t320) t332 t355 t356) else (laws_FnExactGiveRoom.j2 kj82 t354 true t332 t355 t356)))))) else (some false)))) = some r := H
         have A119 := aM A1190
         clear A1190
         replace H := Option.bind_eq_some_iff.mp H
         obtain ⟨t357, A1200, H⟩ := H
         replace H : (if t357 < 0 then (some false) else (if t357 = t354 then ((laws_toFree.f kj82 a0_0 l0_1 l0_2).bind fun bt358 => ((laws_toExtent.f a1_0 a1_1).bind fun bt365 => ((impl_GiveRoom.f kj82 bt358.1 bt358.2.1 bt358.2.2 bt365.1 bt365.2).bind fun bt367 => ((laws_eqFree.f kj82 bt367.1 bt367.2.1 bt367.2.2.1 t313 t314 t317).bind fun t376 => (if t376 = true then (laws_FnExactGiveRoom.j2 kj82 t354 (bt367.2.2.2 != t320) t332 t355 t356) else (laws_FnExactGiveRoom.j2 kj82 t354 true t332 t355 t356)))))) else (some false))) = some r := H
         have A120 := aM A1200
         clear A1200
         by_cases c121 : t357 < 0
         ·rw [if_pos c121] at H
          have c121b0 : decide (t357 < 0) = true := decide_eq_true c121
          clear c121
          obtain rfl := Option.some.inj H
          have hnb122 := NB340_301.out
          have hnc122 := NB301_340.out
          have hnb123 := NB340_302.out
          have hnc123 := NB302_340.out
          have hnb124 := NB340_321.out
          have hnc124 := NB321_340.out
          have hnb125 := NB340_329.out
          have hnc125 := NB329_340.out
          have hcz126_0 : wc.cell? ⟨gb340, 0, none⟩ = some (.int .i64 t332) := yc BK340.out 0
          have hcz126_1 : wc.cell? ⟨gb340, 1, none⟩ = some (.slice Ao52 t333.length co52) := yc BK340.out 1
          have hcz126_2 : wc.cell? ⟨gb340, 2, none⟩ = some (.slice Ao54 t336.length co54) := yc BK340.out 2
          have hfz126_0 := yZ BK340.out 0
          have hfz126_1 := yZ BK340.out 1
          have hfz126_2 := yZ BK340.out 2
          go_wp2_with (first | ((with_reducible refine gate_callee (f := 14) rfl ?_); refine goesL_ (some 70) rfl rfl Try.func14 (by kernel_rfl) rfl #[.agg #[.int .i64 t332, .slice Ao52 t333.length co52, .slice Ao54 t336.length co54], .int .i64 1] rfl (by (try simp only [List.map_toArray, List.map_cons, List.map_nil]); first | done | rfl | (simp only [List.length_drop, List.length_take]; rfl)) ?_; (with_reducible refine (laws_markFree.calls kj82 t332 (fun k_ => some k_ = oB Ao52 t333.length co52) (.slice Ao52 t333.length co52) t333 (fun k_ => some k_ = oB Ao54 t336.length co54) (.slice Ao54 t336.length co54) t336 1 t354 t355 t356 w _ ?side1 ?side2 ?side3 ?side4 ?side5 A119.out).mono ?_); (case side1 => repeat (first | (with_reducible first | exact HB.out | apply zA | apply zN | apply zD | refine zS ?_ GE301.out | refine zS ?_ GE302.out | refine zS ?_ GE321.out | refine zS ?_ GE329.out | refine zS ?_ GE340.out) | exact HB.out)); (case side2 => exact Kd.R_tight rfl p4'.out); (case side3 => exact fun k_ e_ => (p4'.out.1 k_ e_.symm).2.2.2.2); (case side4 => exact Kd.R_tight rfl p5'.out); (case side5 => exact fun k_ e_ => (p5'.out.1 k_ e_.symm).2.2.2.2); rintro e w127 ⟨rfl, hy0, hy1, hb, hkp⟩; refine ⟨_, rfl, ?_⟩; replace p0' := kB p0'.out hkp (fun k_ hk_ hs_ => Or.elim hs_ (fun e_ => (hk_.2.2.2.1) e_) (fun e_ => (hk_.2.2.2.2) e_)); replace p1' := kB p1'.out hkp (fun k_ hk_ hs_ => Or.elim hs_ (fun e_ => (hk_.2.2.2.1) e_) (fun e_ => (hk_.2.2.2.2) e_)); replace p2' := kB p2'.out hkp (fun k_ hk_ hs_ => Or.elim hs_ (fun e_ => (hk_.2.2.2.1) e_) (fun e_ => (hk_.2.2.2.2) e_)); replace p3' := kB p3'.out hkp (fun k_ hk_ hs_ => Or.elim hs_ (fun e_ => (hk_.2.2.2.1) e_) (fun e_ => (hk_.2.2.2.2) e_)); replace BK301 := aM (blk_kept BK301.out hkp (fun hs_ => Or.elim hs_ (fun e_ => (fun e_ => (Kd.R_ne p4'.out BK301.out (by decide)) e_) e_) (fun e_ => (fun e_ => (Kd.R_ne p5'.out BK301.out (by decide)) e_) e_))); replace BK302 := aM (blk_kept BK302.out hkp (fun hs_ => Or.elim hs_ (fun e_ => (fun e_ => (Kd.R_ne p4'.out BK302.out (by decide)) e_) e_) (fun e_ => (fun e_ => (Kd.R_ne p5'.out BK302.out (by decide)) e_) e_))); replace BK321 := aM (blk_kept BK321.out hkp (fun hs_ => Or.elim hs_ (fun e_ => (fun e_ => (Kd.R_ne p4'.out BK321.out (by decide)) e_) e_) (fun e_ => (fun e_ => (Kd.R_ne p5'.out BK321.out (by decide)) e_) e_))); replace BK329 := aM (blk_kept BK329.out hkp (fun hs_ => Or.elim hs_ (fun e_ => (fun e_ => (Kd.R_ne p4'.out BK329.out (by decide)) e_) e_) (fun e_ => (fun e_ => (Kd.R_ne p5'.out BK329.out (by decide)) e_) e_))); replace BK340 := aM (blk_kept BK340.out hkp (fun hs_ => Or.elim hs_ (fun e_ => (fun e_ => (Kd.R_ne p4'.out BK340.out (by decide)) e_) e_) (fun e_ => (fun e_ => (Kd.R_ne p5'.out BK340.out (by decide)) e_) e_))); replace p4' := aM (Kd.R_reok rfl hy0 (fun k_ e_ => p4'.out.1 k_ e_)); replace p5' := aM (Kd.R_reok rfl hy1 (fun k_ e_ => p5'.out.1 k_ e_)); replace HB := aM (hb); (try clear hb); (try clear hkp); (try clear hy0); (try clear hy1); have hcz128_0 : w127.cell? ⟨gb340, 0, none⟩ = some (.int .i64 t332) := yc BK340.out 0; have hcz128_1 : w127.cell? ⟨gb340, 1, none⟩ = some (.slice Ao52 t333.length co52) := yc BK340.out 1; have hcz128_2 : w127.cell? ⟨gb340, 2, none⟩ = some (.slice Ao54 t336.length co54) := yc BK340.out 2; have hfz128_0 := yZ BK340.out 0; have hfz128_1 := yZ BK340.out 1; have hfz128_2 := yZ BK340.out 2) | ((with_reducible refine gate_callee (f := 15) rfl ?_); refine goesL_ (some 73) rfl rfl Try.func15 (by kernel_rfl) rfl #[.agg #[.int .i64 t332, .slice Ao52 t355.length co52, .slice Ao54 t356.length co54], .int .i64 1] rfl (by (try simp only [List.map_toArray, List.map_cons, List.map_nil]); first | done | (rw [show t355.length = t333.length from (Kd.R_reads' p4'.out).1.symm, show t356.length = t336.length from (Kd.R_reads' p5'.out).1.symm] <;> rfl) | rfl | (simp only [List.length_drop, List.length_take]; rfl)) ?_; (with_reducible refine (laws_heldFree.calls kj82 t332 _ _ t355 _ _ t356 1 t357 _ ?side1 ?side2 ?side3 ?side4 A120.out).mono ?_); (case side1 => repeat (first | exact (Kd.R_reads' p4'.out).2.2 | (with_reducible refine cA ?_ _) | (with_reducible refine cN ?_ _) | (with_reducible refine cD ?_))); (case side2 => rw [show t355.length = t333.length from (Kd.R_reads' p4'.out).1.symm]; exact (Kd.R_reads' p4'.out).2.1); (case side3 => repeat (first | exact (Kd.R_reads' p5'.out).2.2 | (with_reducible refine cA ?_ _) | (with_reducible refine cN ?_ _) | (with_reducible refine cD ?_))); (case side4 => rw [show t356.length = t336.length from (Kd.R_reads' p5'.out).1.symm]; exact (Kd.R_reads' p5'.out).2.1); rintro e w129 ⟨rfl, hb⟩; refine ⟨_, rfl, ?_⟩; replace p0' := xK p0'.out hb; replace p1' := xK p1'.out hb; replace p2' := xK p2'.out hb; replace p3' := xK p3'.out hb; replace p4' := xK p4'.out hb; replace p5' := xK p5'.out hb; replace BK301 := yK BK301.out hb; replace BK302 := yK BK302.out hb; replace BK321 := yK BK321.out hb; replace BK329 := yK BK329.out hb; replace BK340 := yK BK340.out hb; replace HB := aM (zT (zH HB.out) hb); (try clear hb)))
          go_ret
          exact ⟨by first | rfl | (simp [errW_none, errW_some] <;> rfl) | (simp [*, errW_none, errW_some] <;> rfl), zH HB.out⟩
         ·rw [if_neg c121] at H
          have c121b0 : decide (t357 < 0) = false := decide_eq_false c121
          clear c121
          by_cases c130 : t357 = t354
          ·rw [if_pos c130] at H
           have c130b0 : (t357 == t354) = true := beq_iff_eq.mpr c130
           have c130b1 : (t357 != t354) = false := bne_eq_false_iff_eq.mpr c130
           clear c130
           replace H := Option.bind_eq_some_iff.mp H
           obtain ⟨⟨t358, t359, t362⟩, A1310, H⟩ := H
           replace H : ((laws_toExtent.f a1_0 a1_1).bind fun bt365 => ((impl_GiveRoom.f kj82 t358 t359 t362 bt365.1 bt365.2).bind fun bt367 => ((laws_eqFree.f kj82 bt367.1 bt367.2.1 bt367.2.2.1 t313 t314 t317).bind fun t376 => (if t376 = true then (laws_FnExactGiveRoom.j2 kj82 t354 (bt367.2.2.2 != t320) t332 t355 t356) else (laws_FnExactGiveRoom.j2 kj82 t354 true t332 t355 t356))))) = some r := H
           have A131 := aM A1310
           clear A1310
           replace H := Option.bind_eq_some_iff.mp H
           obtain ⟨⟨t365, t366⟩, A1320, H⟩ := H
           replace H : ((impl_GiveRoom.f kj82 t358 t359 t362 t365 t366).bind fun bt367 => ((laws_eqFree.f kj82 bt367.1 bt367.2.1 bt367.2.2.1 t313 t314 t317).bind fun t376 => (if t376 = true then (laws_FnExactGiveRoom.j2 kj82 t354 (bt367.2.2.2 != t320) t332 t355 t356) else (laws_FnExactGiveRoom.j2 kj82 t354 true t332 t355 t356)))) = some r := H
           have A132 := aM A1320
           clear A1320
           replace H := Option.bind_eq_some_iff.mp H
           obtain ⟨⟨t367, t368, t371, t374⟩, A1330, H⟩ := H
           replace H : ((laws_eqFree.f kj82 t367 t368 t371 t313 t314 t317).bind fun t376 => (if t376 = true then (laws_FnExactGiveRoom.j2 kj82 t354 (t374 != t320) t332 t355 t356) else (laws_FnExactGiveRoom.j2 kj82 t354 true t332 t355 t356))) = some r := H
           have A133 := aM A1330
           clear A1330
           have HC134 := aM H
           clear H
           have hnb135 := NB340_301.out
           have hnc135 := NB301_340.out
           have hnb136 := NB340_302.out
           have hnc136 := NB302_340.out
           have hnb137 := NB340_321.out
           have hnc137 := NB321_340.out
           have hnb138 := NB340_329.out
           have hnc138 := NB329_340.out
           have hcz139_0 : wc.cell? ⟨gb340, 0, none⟩ = some (.int .i64 t332) := yc BK340.out 0
           have hcz139_1 : wc.cell? ⟨gb340, 1, none⟩ = some (.slice Ao52 t333.length co52) := yc BK340.out 1
           have hcz139_2 : wc.cell? ⟨gb340, 2, none⟩ = some (.slice Ao54 t336.length co54) := yc BK340.out 2
           have hfz139_0 := yZ BK340.out 0
           have hfz139_1 := yZ BK340.out 1
           have hfz139_2 := yZ BK340.out 2
           try go_wp2_with (first | ((with_reducible refine gate_callee (f := 14) rfl ?_); refine goesL_ (some 70) rfl rfl Try.func14 (by kernel_rfl) rfl #[.agg #[.int .i64 t332, .slice Ao52 t333.length co52, .slice Ao54 t336.length co54], .int .i64 1] rfl (by (try simp only [List.map_toArray, List.map_cons, List.map_nil]); first | done | rfl | (simp only [List.length_drop, List.length_take]; rfl)) ?_; (with_reducible refine (laws_markFree.calls kj82 t332 (fun k_ => some k_ = oB Ao52 t333.length co52) (.slice Ao52 t333.length co52) t333 (fun k_ => some k_ = oB Ao54 t336.length co54) (.slice Ao54 t336.length co54) t336 1 t354 t355 t356 w _ ?side1 ?side2 ?side3 ?side4 ?side5 A119.out).mono ?_); (case side1 => repeat (first | (with_reducible first | exact HB.out | apply zA | apply zN | apply zD | refine zS ?_ GE301.out | refine zS ?_ GE302.out | refine zS ?_ GE321.out | refine zS ?_ GE329.out | refine zS ?_ GE340.out) | exact HB.out)); (case side2 => exact Kd.R_tight rfl p4'.out); (case side3 => exact fun k_ e_ => (p4'.out.1 k_ e_.symm).2.2.2.2); (case side4 => exact Kd.R_tight rfl p5'.out); (case side5 => exact fun k_ e_ => (p5'.out.1 k_ e_.symm).2.2.2.2); rintro e w140 ⟨rfl, hy0, hy1, hb, hkp⟩; refine ⟨_, rfl, ?_⟩; replace p0' := kB p0'.out hkp (fun k_ hk_ hs_ => Or.elim hs_ (fun e_ => (hk_.2.2.2.1) e_) (fun e_ => (hk_.2.2.2.2) e_)); replace p1' := kB p1'.out hkp (fun k_ hk_ hs_ => Or.elim hs_ (fun e_ => (hk_.2.2.2.1) e_) (fun e_ => (hk_.2.2.2.2) e_)); replace p2' := kB p2'.out hkp (fun k_ hk_ hs_ => Or.elim hs_ (fun e_ => (hk_.2.2.2.1) e_) (fun e_ => (hk_.2.2.2.2) e_)); replace p3' := kB p3'.out hkp (fun k_ hk_ hs_ => Or.elim hs_ (fun e_ => (hk_.2.2.2.1) e_) (fun e_ => (hk_.2.2.2.2) e_)); replace BK301 := aM (blk_kept BK301.out hkp (fun hs_ => Or.elim hs_ (fun e_ => (fun e_ => (Kd.R_ne p4'.out BK301.out (by decide)) e_) e_) (fun e_ => (fun e_ => (Kd.R_ne p5'.out BK301.out (by decide)) e_) e_))); replace BK302 := aM (blk_kept BK302.out hkp (fun hs_ => Or.elim hs_ (fun e_ => (fun e_ => (Kd.R_ne p4'.out BK302.out (by decide)) e_) e_) (fun e_ => (fun e_ => (Kd.R_ne p5'.out BK302.out (by decide)) e_) e_))); replace BK321 := aM (blk_kept BK321.out hkp (fun hs_ => Or.elim hs_ (fun e_ => (fun e_ => (Kd.R_ne p4'.out BK321.out (by decide)) e_) e_) (fun e_ => (fun e_ => (Kd.R_ne p5'.out BK321.out (by decide)) e_) e_))); replace BK329 := aM (blk_kept BK329.out hkp (fun hs_ => Or.elim hs_ (fun e_ => (fun e_ => (Kd.R_ne p4'.out BK329.out (by decide)) e_) e_) (fun e_ => (fun e_ => (Kd.R_ne p5'.out BK329.out (by decide)) e_) e_))); replace BK340 := aM (blk_kept BK340.out hkp (fun hs_ => Or.elim hs_ (fun e_ => (fun e_ => (Kd.R_ne p4'.out BK340.out (by decide)) e_) e_) (fun e_ => (fun e_ => (Kd.R_ne p5'.out BK340.out (by decide)) e_) e_))); replace p4' := aM (Kd.R_reok rfl hy0 (fun k_ e_ => p4'.out.1 k_ e_)); replace p5' := aM (Kd.R_reok rfl hy1 (fun k_ e_ => p5'.out.1 k_ e_)); replace HB := aM (hb); (try clear hb); (try clear hkp); (try clear hy0); (try clear hy1); have hcz141_0 : w140.cell? ⟨gb340, 0, none⟩ = some (.int .i64 t332) := yc BK340.out 0; have hcz141_1 : w140.cell? ⟨gb340, 1, none⟩ = some (.slice Ao52 t333.length co52) := yc BK340.out 1; have hcz141_2 : w140.cell? ⟨gb340, 2, none⟩ = some (.slice Ao54 t336.length co54) := yc BK340.out 2; have hfz141_0 := yZ BK340.out 0; have hfz141_1 := yZ BK340.out 1; have hfz141_2 := yZ BK340.out 2) | ((with_reducible refine gate_callee (f := 15) rfl ?_); refine goesL_ (some 73) rfl rfl Try.func15 (by kernel_rfl) rfl #[.agg #[.int .i64 t332, .slice Ao52 t355.length co52, .slice Ao54 t356.length co54], .int .i64 1] rfl (by (try simp only [List.map_toArray, List.map_cons, List.map_nil]); first | done | (rw [show t355.length = t333.length from (Kd.R_reads' p4'.out).1.symm, show t356.length = t336.length from (Kd.R_reads' p5'.out).1.symm] <;> rfl) | rfl | (simp only [List.length_drop, List.length_take]; rfl)) ?_; (with_reducible refine (laws_heldFree.calls kj82 t332 _ _ t355 _ _ t356 1 t357 _ ?side1 ?side2 ?side3 ?side4 A120.out).mono ?_); (case side1 => repeat (first | exact (Kd.R_reads' p4'.out).2.2 | (with_reducible refine cA ?_ _) | (with_reducible refine cN ?_ _) | (with_reducible refine cD ?_))); (case side2 => rw [show t355.length = t333.length from (Kd.R_reads' p4'.out).1.symm]; exact (Kd.R_reads' p4'.out).2.1); (case side3 => repeat (first | exact (Kd.R_reads' p5'.out).2.2 | (with_reducible refine cA ?_ _) | (with_reducible refine cN ?_ _) | (with_reducible refine cD ?_))); (case side4 => rw [show t356.length = t336.length from (Kd.R_reads' p5'.out).1.symm]; exact (Kd.R_reads' p5'.out).2.1); rintro e w142 ⟨rfl, hb⟩; refine ⟨_, rfl, ?_⟩; replace p0' := xK p0'.out hb; replace p1' := xK p1'.out hb; replace p2' := xK p2'.out hb; replace p3' := xK p3'.out hb; replace p4' := xK p4'.out hb; replace p5' := xK p5'.out hb; replace BK301 := yK BK301.out hb; replace BK302 := yK BK302.out hb; replace BK321 := yK BK321.out hb; replace BK329 := yK BK329.out hb; replace BK340 := yK BK340.out hb; replace HB := aM (zT (zH HB.out) hb); (try clear hb)))
           replace p0' := aM (xD p0'.out)
           replace p1' := aM (xD p1'.out)
           replace p2' := aM (xD p2'.out)
           replace p3' := aM (xD p3'.out)
           replace p4' := aM (xD p4'.out)
           replace p5' := aM (xD p5'.out)
           replace BK301 := aM (yD BK301.out)
           replace BK302 := aM (yD BK302.out)
           replace BK321 := aM (yD BK321.out)
           replace BK329 := aM (yD BK329.out)
           replace BK340 := aM (yD BK340.out)
           replace HB := aM (zD HB.out)
           refine start_ (n := 11) (S := fun w' => w'.cell? ⟨gb301, 0, none⟩ = some (.int .i64 a0_0) ∧ w'.cell? ⟨gb301, 1, none⟩ = some (.slice A0_1 l0_1.length c0_1) ∧ w'.cell? ⟨gb301, 2, none⟩ = some (.slice A0_2 l0_2.length c0_2) ∧ w'.cell? ⟨gb302, 0, none⟩ = some (.int .i64 a1_0) ∧ w'.cell? ⟨gb302, 1, none⟩ = some (.int .i64 a1_1)) (ds := []) #[fF,fF,fF,fF,fF,fF,fF,fF,fF,fF,fF] (by kernel_rfl) rfl rfl ⟨yc BK301.out 0, yc BK301.out 1, yc BK301.out 2, yc BK302.out 0, yc BK302.out 1⟩ (fun hHeld => ?_); refine with_tabW laws_FnExactGiveRoom.tab24 laws_FnExactGiveRoom.bits24 (fun HT_ HW_ => ?_)
           generalize w142.drew = w143 at p0' p1' p2' p3' p4' p5' BK301 BK302 BK321 BK329 BK340 HB hHeld ⊢
           refine take_ (i := 0) (N := some 80) (v := ?_) (a' := ?_) #[tT,fF,fF,fF,fF,fF,fF,fF,fF,fF,fF] rfl rfl (take_ofW HT_.out HW_.out (by kernel_rfl)) (fun _ _ _ h => h) (Or.inl ⟨by rfl, ?_⟩) hHeld ?_ ?_
           rotate_left
           ·rintro w' ⟨s0, s1, s2, s3, s4⟩
            go_simp
            with_reducible rfl
           rotate_left
           ·simp only [Act.put, qA, qB, qC, i64_w, i32_w]
            rfl
           refine take_ (i := 2) (N := some 82) (v := ?_) (a' := ?_) #[tT,fF,tT,fF,fF,fF,fF,fF,fF,fF,fF] rfl rfl (take_ofW HT_.out HW_.out (by kernel_rfl)) (fun _ _ _ h => h) (Or.inl ⟨by rfl, ?_⟩) hHeld ?_ ?_
           rotate_left
           ·rintro w' ⟨s0, s1, s2, s3, s4⟩
            go_simp
            with_reducible rfl
           rotate_left
           ·simp only [Act.put, qA, qB, qC, i64_w, i32_w]
            rfl
           refine join_ (σ := Value × Value × Value × Value × Nat) 2 #[tT,tT,tT,tT,tT,tT,tT,tT,tT,fF,fF] (fun s_ => [(81, .agg #[.int .i64 t358, s_.1, s_.2.1]), (83, .agg #[.int .i64 t365, .int .i64 t366]), (84, .tuple #[.agg #[.int .i64 t367, s_.2.2.1, s_.2.2.2.1], .bool t374]), (14, .pointer (some ⟨s_.2.2.2.2, 0, none⟩)), (79, .tuple #[.agg #[.int .i64 t367, s_.2.2.1, s_.2.2.2.1], .bool t374]), (85, .agg #[.int .i64 t367, s_.2.2.1, s_.2.2.2.1]), (86, .bool t374)]) (fun s_ w' => (w'.cell? ⟨gb301, 0, none⟩ = some (.int .i64 a0_0) ∧ w'.cell? ⟨gb301, 1, none⟩ = some (.slice A0_1 l0_1.length c0_1) ∧ w'.cell? ⟨gb301, 2, none⟩ = some (.slice A0_2 l0_2.length c0_2) ∧ w'.cell? ⟨gb302, 0, none⟩ = some (.int .i64 a1_0) ∧ w'.cell? ⟨gb302, 1, none⟩ = some (.int .i64 a1_1)) ∧ (Kd.R k49 49 w' w.heap.size (fun k_ => some k_ ≠ (s_.2.1 : Value).ownBlock ∧ some k_ ≠ (s_.2.2.1 : Value).ownBlock ∧ some k_ ≠ (s_.2.2.2.1 : Value).ownBlock ∧ some k_ ≠ oB Ao31 t314.length co31 ∧ some k_ ≠ oB Ao33 t317.length co33 ∧ some k_ ≠ oB Ao43 t351.length co43 ∧ some k_ ≠ oB Ao44 t352.length co44 ∧ some k_ ≠ oB Ao52 t333.length co52 ∧ some k_ ≠ oB Ao54 t336.length co54) s_.1 t359) ∧ (Kd.R k49 49 w' w.heap.size (fun k_ => some k_ ≠ (s_.1 : Value).ownBlock ∧ some k_ ≠ (s_.2.2.1 : Value).ownBlock ∧ some k_ ≠ (s_.2.2.2.1 : Value).ownBlock ∧ some k_ ≠ oB Ao31 t314.length co31 ∧ some k_ ≠ oB Ao33 t317.length co33 ∧ some k_ ≠ oB Ao43 t351.length co43 ∧ some k_ ≠ oB Ao44 t352.length co44 ∧ some k_ ≠ oB Ao52 t333.length co52 ∧ some k_ ≠ oB Ao54 t336.length co54) s_.2.1 t362) ∧ (Kd.R k49 49 w' w.heap.size (fun k_ => some k_ ≠ (s_.1 : Value).ownBlock ∧ some k_ ≠ (s_.2.1 : Value).ownBlock ∧ some k_ ≠ (s_.2.2.2.1 : Value).ownBlock ∧ some k_ ≠ oB Ao31 t314.length co31 ∧ some k_ ≠ oB Ao33 t317.length co33 ∧ some k_ ≠ oB Ao43 t351.length co43 ∧ some k_ ≠ oB Ao44 t352.length co44 ∧ some k_ ≠ oB Ao52 t333.length co52 ∧ some k_ ≠ oB Ao54 t336.length co54) s_.2.2.1 t368) ∧ (Kd.R k49 49 w' w.heap.size (fun k_ => some k_ ≠ (s_.1 : Value).ownBlock ∧ some k_ ≠ (s_.2.1 : Value).ownBlock ∧ some k_ ≠ (s_.2.2.1 : Value).ownBlock ∧ some k_ ≠ oB Ao31 t314.length co31 ∧ some k_ ≠ oB Ao33 t317.length co33 ∧ some k_ ≠ oB Ao43 t351.length co43 ∧ some k_ ≠ oB Ao44 t352.length co44 ∧ some k_ ≠ oB Ao52 t333.length co52 ∧ some k_ ≠ oB Ao54 t336.length co54) s_.2.2.2.1 t371) ∧ (Kd.R k49 49 w' w.heap.size (fun k_ => some k_ ≠ (s_.1 : Value).ownBlock ∧ some k_ ≠ (s_.2.1 : Value).ownBlock ∧ some k_ ≠ (s_.2.2.1 : Value).ownBlock ∧ some k_ ≠ (s_.2.2.2.1 : Value).ownBlock ∧ some k_ ≠ oB Ao33 t317.length co33 ∧ some k_ ≠ oB Ao43 t351.length co43 ∧ some k_ ≠ oB Ao44 t352.length co44 ∧ some k_ ≠ oB Ao52 t333.length co52 ∧ some k_ ≠ oB Ao54 t336.length co54) (.slice Ao31 t314.length co31) t314) ∧ (Kd.R k49 49 w' w.heap.size (fun k_ => some k_ ≠ (s_.1 : Value).ownBlock ∧ some k_ ≠ (s_.2.1 : Value).ownBlock ∧ some k_ ≠ (s_.2.2.1 : Value).ownBlock ∧ some k_ ≠ (s_.2.2.2.1 : Value).ownBlock ∧ some k_ ≠ oB Ao31 t314.length co31 ∧ some k_ ≠ oB Ao43 t351.length co43 ∧ some k_ ≠ oB Ao44 t352.length co44 ∧ some k_ ≠ oB Ao52 t333.length co52 ∧ some k_ ≠ oB Ao54 t336.length co54) (.slice Ao33 t317.length co33) t317) ∧ (Kd.R k49 49 w' w.heap.size (fun k_ => some k_ ≠ (s_.1 : Value).ownBlock ∧ some k_ ≠ (s_.2.1 : Value).ownBlock ∧ some k_ ≠ (s_.2.2.1 : Value).ownBlock ∧ some k_ ≠ (s_.2.2.2.1 : Value).ownBlock ∧ some k_ ≠ oB Ao31 t314.length co31 ∧ some k_ ≠ oB Ao33 t317.length co33 ∧ some k_ ≠ oB Ao44 t352.length co44 ∧ some k_ ≠ oB Ao52 t333.length co52 ∧ some k_ ≠ oB Ao54 t336.length co54) (.slice Ao43 t351.length co43) t351) ∧ (Kd.R k49 49 w' w.heap.size (fun k_ => some k_ ≠ (s_.1 : Value).ownBlock ∧ some k_ ≠ (s_.2.1 : Value).ownBlock ∧ some k_ ≠ (s_.2.2.1 : Value).ownBlock ∧ some k_ ≠ (s_.2.2.2.1 : Value).ownBlock ∧ some k_ ≠ oB Ao31 t314.length co31 ∧ some k_ ≠ oB Ao33 t317.length co33 ∧ some k_ ≠ oB Ao43 t351.length co43 ∧ some k_ ≠ oB Ao52 t333.length co52 ∧ some k_ ≠ oB Ao54 t336.length co54) (.slice Ao44 t352.length co44) t352) ∧ (Kd.R k49 49 w' w.heap.size (fun k_ => some k_ ≠ (s_.1 : Value).ownBlock ∧ some k_ ≠ (s_.2.1 : Value).ownBlock ∧ some k_ ≠ (s_.2.2.1 : Value).ownBlock ∧ some k_ ≠ (s_.2.2.2.1 : Value).ownBlock ∧ some k_ ≠ oB Ao31 t314.length co31 ∧ some k_ ≠ oB Ao33 t317.length co33 ∧ some k_ ≠ oB Ao43 t351.length co43 ∧ some k_ ≠ oB Ao44 t352.length co44 ∧ some k_ ≠ oB Ao54 t336.length co54) (.slice Ao52 t333.length co52) t355) ∧ (Kd.R k49 49 w' w.heap.size (fun k_ => some k_ ≠ (s_.1 : Value).ownBlock ∧ some k_ ≠ (s_.2.1 : Value).ownBlock ∧ some k_ ≠ (s_.2.2.1 : Value).ownBlock ∧ some k_ ≠ (s_.2.2.2.1 : Value).ownBlock ∧ some k_ ≠ oB Ao31 t314.length co31 ∧ some k_ ≠ oB Ao33 t317.length co33 ∧ some k_ ≠ oB Ao43 t351.length co43 ∧ some k_ ≠ oB Ao44 t352.length co44 ∧ some k_ ≠ oB Ao52 t333.length co52) (.slice Ao54 t336.length co54) t356) ∧ (w'.heap[gb301]? = some (.cells #[.int .i64 a0_0, .slice A0_1 l0_1.length c0_1, .slice A0_2 l0_2.length c0_2] 32 (0, 0))) ∧ (w'.heap[gb302]? = some (.cells #[.int .i64 a1_0, .int .i64 a1_1] 47 (0, 0))) ∧ (w'.heap[gb321]? = some (.cells #[.int .i64 t313, .slice Ao31 t314.length co31, .slice Ao33 t317.length co33] 24 (0, 0))) ∧ (w'.heap[gb329]? = some (.cells #[.int .i64 t322, .slice Ao43 t351.length co43, .slice Ao44 t352.length co44] 24 (0, 0))) ∧ (w'.heap[gb340]? = some (.cells #[.int .i64 t332, .slice Ao52 t333.length co52, .slice Ao54 t336.length co54] 24 (0, 0))) ∧ (w'.heap[s_.2.2.2.2]? = some (.cells #[.int .i64 0, .slice none 0 0, .slice none 0 0] 24 (0, 0))) ∧ (w.heap.size ≤ s_.2.2.2.2) ∧ (w.heap.size ≤ s_.2.2.2.2) ∧ (gb301 ≠ s_.2.2.2.2) ∧ (s_.2.2.2.2 ≠ gb301) ∧ (gb302 ≠ s_.2.2.2.2) ∧ (s_.2.2.2.2 ≠ gb302) ∧ (gb321 ≠ s_.2.2.2.2) ∧ (s_.2.2.2.2 ≠ gb321) ∧ (gb329 ≠ s_.2.2.2.2) ∧ (s_.2.2.2.2 ≠ gb329) ∧ (gb340 ≠ s_.2.2.2.2) ∧ (s_.2.2.2.2 ≠ gb340) ∧ (Below w.heap.size w w')) ?_ ?_
           rotate_left
           ·intro hCont
            refine two_ (i := 1) (j := 8) (Ni := some 81) (Nj := some 14) #[tT,tT,tT,fF,fF,fF,fF,fF,fF,fF,fF] #[tT,fF,tT,fF,fF,fF,fF,fF,tT,fF,fF] rfl rfl rfl rfl (two_of HT_.out (by kernel_rfl)) (by decide) (by decide) (fun K hK => ?_) (fun K hK => ?_)
            ·skip
             refine gS Try.func18 (by kernel_rfl) rfl #[.agg #[.int .i64 a0_0, .slice A0_1 l0_1.length c0_1, .slice A0_2 l0_2.length c0_2]] (by rfl) rfl rfl ?_
             with_reducible refine (laws_toFree.calls kj82 a0_0 _ _ l0_1 _ _ l0_2 t358 t359 t362 _ ?side1 ?side2 ?side3 ?side4 A131.out).mono ?_
             (case side1 => exact cK HR0_1.out HB.out)
             (case side2 => exact HC0_1.out)
             (case side3 => exact cK HR0_2.out HB.out)
             (case side4 => exact HC0_2.out)
             rintro e w144 ⟨v360, v363, rfl, ho0, ho1, hb⟩
             refine ⟨_, rfl, ?_⟩
             have HO361 := aM (xL (Kd.R_new' (Kd.R_new' (Kd.R_new' (Kd.R_new' (Kd.R_new' (Kd.R_new' ho0 (Kd.R_lt (xH p0'.out))) (Kd.R_lt (xH p1'.out))) (Kd.R_lt (xH p2'.out))) (Kd.R_lt (xH p3'.out))) (Kd.R_lt (xH p4'.out))) (Kd.R_lt (xH p5'.out))) (zZ (zH HB.out)))
             have HO364 := aM (xL (Kd.R_new' (Kd.R_new' (Kd.R_new' (Kd.R_new' (Kd.R_new' (Kd.R_new' ho1 (Kd.R_lt (xH p0'.out))) (Kd.R_lt (xH p1'.out))) (Kd.R_lt (xH p2'.out))) (Kd.R_lt (xH p3'.out))) (Kd.R_lt (xH p4'.out))) (Kd.R_lt (xH p5'.out))) (zZ (zH HB.out)))
             replace p0' := aM (xM (Kd.R_told (Kd.R_told (Kd.R_old (xH p0'.out) hb) (Kd.R_base ho0)) (Kd.R_base ho1)) (fun _ h_ => h_.1))
             replace p1' := aM (xM (Kd.R_told (Kd.R_told (Kd.R_old (xH p1'.out) hb) (Kd.R_base ho0)) (Kd.R_base ho1)) (fun _ h_ => h_.1))
             replace p2' := aM (xM (Kd.R_told (Kd.R_told (Kd.R_old (xH p2'.out) hb) (Kd.R_base ho0)) (Kd.R_base ho1)) (fun _ h_ => h_.1))
             replace p3' := aM (xM (Kd.R_told (Kd.R_told (Kd.R_old (xH p3'.out) hb) (Kd.R_base ho0)) (Kd.R_base ho1)) (fun _ h_ => h_.1))
             replace p4' := aM (xM (Kd.R_told (Kd.R_told (Kd.R_old (xH p4'.out) hb) (Kd.R_base ho0)) (Kd.R_base ho1)) (fun _ h_ => h_.1))
             replace p5' := aM (xM (Kd.R_told (Kd.R_told (Kd.R_old (xH p5'.out) hb) (Kd.R_base ho0)) (Kd.R_base ho1)) (fun _ h_ => h_.1))
             replace BK301 := yK BK301.out hb
             replace BK302 := yK BK302.out hb
             replace BK321 := yK BK321.out hb
             replace BK329 := yK BK329.out hb
             replace BK340 := yK BK340.out hb
             replace HB := aM (zT (zH HB.out) hb)
             (try clear hb); (try clear ho0); (try clear ho1)
             refine hK.out _ _ ⟨yc BK301.out 0, yc BK301.out 1, yc BK301.out 2, yc BK302.out 0, yc BK302.out 1⟩ (fun hHeld => ?_)
             clear hK K
             refine norm_ (a' := ?_) ?_ ?_
             rotate_left
             ·show Act.put _ (some 81) _ = _
              simp only [Act.put, qA, qB, qC, i64_w, i32_w]
              rfl
             refine two_ (i := 3) (j := 8) (Ni := some 83) (Nj := some 14) #[tT,tT,tT,tT,fF,fF,fF,fF,fF,fF,fF] #[tT,tT,tT,fF,fF,fF,fF,fF,tT,fF,fF] rfl rfl rfl rfl (two_of HT_.out (by kernel_rfl)) (by decide) (by decide) (fun K hK => ?_) (fun K hK => ?_)
             ·skip
              refine gS Try.func30 (by kernel_rfl) rfl #[.agg #[.int .i64 a1_0, .int .i64 a1_1]] (by rfl) rfl rfl ?_
              with_reducible refine (laws_toExtent.calls a1_0 a1_1 t365 t366 _ A132.out).mono ?_
              rintro e w145 ⟨rfl, hb⟩
              refine ⟨_, rfl, ?_⟩
              replace p0' := xK p0'.out hb
              replace p1' := xK p1'.out hb
              replace p2' := xK p2'.out hb
              replace p3' := xK p3'.out hb
              replace p4' := xK p4'.out hb
              replace p5' := xK p5'.out hb
              replace HO361 := xK HO361.out hb
              replace HO364 := xK HO364.out hb
              replace BK301 := yK BK301.out hb
              replace BK302 := yK BK302.out hb
              replace BK321 := yK BK321.out hb
              replace BK329 := yK BK329.out hb
              replace BK340 := yK BK340.out hb
              replace HB := aM (zT (zH HB.out) hb)
              (try clear hb)
              obtain ⟨Ao146, co146, eo146⟩ := Kd.R_slice HO361.out
              (first | subst eo146 | obtain ⟨rfl, rfl⟩ := eI eo146)
              obtain ⟨Ao147, co147, eo147⟩ := Kd.R_slice HO364.out
              (first | subst eo147 | obtain ⟨rfl, rfl⟩ := eI eo147)
              refine hK.out _ _ ⟨yc BK301.out 0, yc BK301.out 1, yc BK301.out 2, yc BK302.out 0, yc BK302.out 1⟩ (fun hHeld => ?_)
              clear hK K
              refine norm_ (a' := ?_) ?_ ?_
              rotate_left
              ·show Act.put _ (some 83) _ = _
               simp only [Act.put, qA, qB, qC, i64_w, i32_w]
               rfl
              refine two_ (i := 4) (j := 8) (Ni := some 84) (Nj := some 14) #[tT,tT,tT,tT,tT,fF,fF,fF,fF,fF,fF] #[tT,tT,tT,tT,fF,fF,fF,fF,tT,fF,fF] rfl rfl rfl rfl (two_of HT_.out (by kernel_rfl)) (by decide) (by decide) (fun K hK => ?_) (fun K hK => ?_)
              ·skip
               refine gS Try.func31 (by kernel_rfl) rfl #[.agg #[.int .i64 t358, .slice Ao146 t359.length co146, .slice Ao147 t362.length co147], .agg #[.int .i64 t365, .int .i64 t366]] (by rfl) rfl rfl ?_
               with_reducible refine (impl_GiveRoom.calls kj82 t358 _ _ t359 _ _ t362 t365 t366 t367 t368 t371 t374 _ ?side1 ?side2 ?side3 ?side4 A133.out).mono ?_
               (case side1 => repeat (first | exact (Kd.R_reads' HO361.out).2.2 | (with_reducible refine cA ?_ _) | (with_reducible refine cN ?_ _) | (with_reducible refine cD ?_)))
               (case side2 => exact (Kd.R_reads' HO361.out).2.1)
               (case side3 => repeat (first | exact (Kd.R_reads' HO364.out).2.2 | (with_reducible refine cA ?_ _) | (with_reducible refine cN ?_ _) | (with_reducible refine cD ?_)))
               (case side4 => exact (Kd.R_reads' HO364.out).2.1)
               rintro e w148 ⟨v369, v372, rfl, ho0, ho1, hb⟩
               refine ⟨_, rfl, ?_⟩
               have HO370 := aM (xL (Kd.R_new' (Kd.R_new' (Kd.R_new' (Kd.R_new' (Kd.R_new' (Kd.R_new' (Kd.R_new' (Kd.R_new' ho0 (Kd.R_lt (xH p0'.out))) (Kd.R_lt (xH p1'.out))) (Kd.R_lt (xH p2'.out))) (Kd.R_lt (xH p3'.out))) (Kd.R_lt (xH p4'.out))) (Kd.R_lt (xH p5'.out))) (Kd.R_lt (xH HO361.out))) (Kd.R_lt (xH HO364.out))) (zZ (zH HB.out)))
               have HO373 := aM (xL (Kd.R_new' (Kd.R_new' (Kd.R_new' (Kd.R_new' (Kd.R_new' (Kd.R_new' (Kd.R_new' (Kd.R_new' ho1 (Kd.R_lt (xH p0'.out))) (Kd.R_lt (xH p1'.out))) (Kd.R_lt (xH p2'.out))) (Kd.R_lt (xH p3'.out))) (Kd.R_lt (xH p4'.out))) (Kd.R_lt (xH p5'.out))) (Kd.R_lt (xH HO361.out))) (Kd.R_lt (xH HO364.out))) (zZ (zH HB.out)))
               replace p0' := aM (xM (Kd.R_told (Kd.R_told (Kd.R_old (xH p0'.out) hb) (Kd.R_base ho0)) (Kd.R_base ho1)) (fun _ h_ => h_.1))
               replace p1' := aM (xM (Kd.R_told (Kd.R_told (Kd.R_old (xH p1'.out) hb) (Kd.R_base ho0)) (Kd.R_base ho1)) (fun _ h_ => h_.1))
               replace p2' := aM (xM (Kd.R_told (Kd.R_told (Kd.R_old (xH p2'.out) hb) (Kd.R_base ho0)) (Kd.R_base ho1)) (fun _ h_ => h_.1))
               replace p3' := aM (xM (Kd.R_told (Kd.R_told (Kd.R_old (xH p3'.out) hb) (Kd.R_base ho0)) (Kd.R_base ho1)) (fun _ h_ => h_.1))
               replace p4' := aM (xM (Kd.R_told (Kd.R_told (Kd.R_old (xH p4'.out) hb) (Kd.R_base ho0)) (Kd.R_base ho1)) (fun _ h_ => h_.1))
               replace p5' := aM (xM (Kd.R_told (Kd.R_told (Kd.R_old (xH p5'.out) hb) (Kd.R_base ho0)) (Kd.R_base ho1)) (fun _ h_ => h_.1))
               replace HO361 := aM (xM (Kd.R_told (Kd.R_told (Kd.R_old (xH HO361.out) hb) (Kd.R_base ho0)) (Kd.R_base ho1)) (fun _ h_ => h_.1))
               replace HO364 := aM (xM (Kd.R_told (Kd.R_told (Kd.R_old (xH HO364.out) hb) (Kd.R_base ho0)) (Kd.R_base ho1)) (fun _ h_ => h_.1))
               replace BK301 := yK BK301.out hb
               replace BK302 := yK BK302.out hb
               replace BK321 := yK BK321.out hb
               replace BK329 := yK BK329.out hb
               replace BK340 := yK BK340.out hb
               replace HB := aM (zT (zH HB.out) hb)
               (try clear hb); (try clear ho0); (try clear ho1)
               refine hK.out _ _ ⟨yc BK301.out 0, yc BK301.out 1, yc BK301.out 2, yc BK302.out 0, yc BK302.out 1⟩ (fun hHeld => ?_)
               clear hK K
               refine norm_ (a' := ?_) ?_ ?_
               rotate_left
               ·show Act.put _ (some 84) _ = _
                simp only [Act.put, qA, qB, qC, i64_w, i32_w]
                rfl
               refine pure_ (i := 5) (N := some 79) (v := ?_) (a' := ?_) #[tT,tT,tT,tT,tT,tT,fF,fF,fF,fF,fF] rfl rfl (any_of HT_.out (by kernel_rfl)) (fun _ _ _ h => h) (Or.inl ⟨by rfl, ?_⟩) ?_ ?_
               rotate_left
               ·intro w'
                go_simp
                with_reducible rfl
               rotate_left
               ·simp only [Act.put, qA, qB, qC, i64_w, i32_w]
                rfl
               refine pure_ (i := 6) (N := some 85) (v := ?_) (a' := ?_) #[tT,tT,tT,tT,tT,tT,tT,fF,fF,fF,fF] rfl rfl (any_of HT_.out (by kernel_rfl)) (fun _ _ _ h => h) (Or.inl ⟨by rfl, ?_⟩) ?_ ?_
               rotate_left
               ·intro w'
                go_simp
                with_reducible rfl
               rotate_left
               ·simp only [Act.put, qA, qB, qC, i64_w, i32_w]
                rfl
               refine pure_ (i := 7) (N := some 86) (v := ?_) (a' := ?_) #[tT,tT,tT,tT,tT,tT,tT,tT,fF,fF,fF] rfl rfl (any_of HT_.out (by kernel_rfl)) (fun _ _ _ h => h) (Or.inl ⟨by rfl, ?_⟩) ?_ ?_
               rotate_left
               ·intro w'
                go_simp
                with_reducible rfl
               rotate_left
               ·simp only [Act.put, qA, qB, qC, i64_w, i32_w]
                rfl
               refine one_ (i := 8) (N := some 14) #[tT,tT,tT,tT,tT,tT,tT,tT,tT,fF,fF] rfl rfl (one_of HT_.out (by kernel_rfl)) (by decide) (fun K hK => ?_)
               refine box_step ?hg (N := 14) ?hd (cs := #[.int .i64 0, .slice none 0 0, .slice none 0 0]) (t := 24) ?hr ?_; (case hd => rfl); (case hg => rfl); (case hr => first | (go_simp; done) | (go_simp; rfl))
               intro gb375 hg w149 hbox hb
               replace p0' := xK p0'.out hb
               replace p1' := xK p1'.out hb
               replace p2' := xK p2'.out hb
               replace p3' := xK p3'.out hb
               replace p4' := xK p4'.out hb
               replace p5' := xK p5'.out hb
               replace HO361 := xK HO361.out hb
               replace HO364 := xK HO364.out hb
               replace HO370 := xK HO370.out hb
               replace HO373 := xK HO373.out hb
               have BK375 := aM (hbox)
               have GW375 := aM ((by rw [hg]; exact (zZ (zH HB.out)) : w.heap.size ≤ gb375))
               have GE375 := aM ((by rw [hg]; exact (zZ (zH HB.out)) : w.heap.size ≤ gb375))
               replace HB := aM (zT (zH HB.out) hb)
               have NB301_375 := nL BK301.out hg
               have NB375_301 := nR BK301.out hg
               replace BK301 := yK BK301.out hb
               have NB302_375 := nL BK302.out hg
               have NB375_302 := nR BK302.out hg
               replace BK302 := yK BK302.out hb
               have NB321_375 := nL BK321.out hg
               have NB375_321 := nR BK321.out hg
               replace BK321 := yK BK321.out hb
               have NB329_375 := nL BK329.out hg
               have NB375_329 := nR BK329.out hg
               replace BK329 := yK BK329.out hb
               have NB340_375 := nL BK340.out hg
               have NB375_340 := nR BK340.out hg
               replace BK340 := yK BK340.out hb
               clear hb hbox hg
               refine hK.out _ _ ⟨yc BK301.out 0, yc BK301.out 1, yc BK301.out 2, yc BK302.out 0, yc BK302.out 1⟩ (fun hHeld => ?_)
               clear hK K
               refine norm_ (a' := ?_) ?_ ?_
               rotate_left
               ·show Act.put _ (some 14) _ = _
                simp only [Act.put, qA, qB, qC, i64_w, i32_w]
                rfl
               exact norm_ (by simp only [putAll, Act.put, qA, qB, qC]) (hCont (.slice Ao146 t359.length co146, .slice Ao147 t362.length co147, v369, v372, gb375) _ ⟨hHeld, (xH (xM HO361.out (fun _ hk => ⟨hk.1.1.1.1.1.1.1.1, ⟨hk.1.2, ⟨hk.2, ⟨hk.1.1.1.1.1.1.1.2, ⟨hk.1.1.1.1.1.1.2, ⟨hk.1.1.1.1.1.2, ⟨hk.1.1.1.1.2, ⟨hk.1.1.1.2, hk.1.1.2⟩⟩⟩⟩⟩⟩⟩⟩))), (xH (xM HO364.out (fun _ hk => ⟨hk.1.1.1.1.1.1.1.1, ⟨hk.1.2, ⟨hk.2, ⟨hk.1.1.1.1.1.1.1.2, ⟨hk.1.1.1.1.1.1.2, ⟨hk.1.1.1.1.1.2, ⟨hk.1.1.1.1.2, ⟨hk.1.1.1.2, hk.1.1.2⟩⟩⟩⟩⟩⟩⟩⟩))), (xH (xM HO370.out (fun _ hk => ⟨hk.1.2, ⟨hk.2, ⟨hk.1.1.1.1.1.1.1.1, ⟨hk.1.1.1.1.1.1.1.2, ⟨hk.1.1.1.1.1.1.2, ⟨hk.1.1.1.1.1.2, ⟨hk.1.1.1.1.2, ⟨hk.1.1.1.2, hk.1.1.2⟩⟩⟩⟩⟩⟩⟩⟩))), (xH (xM HO373.out (fun _ hk => ⟨hk.1.2, ⟨hk.2, ⟨hk.1.1.1.1.1.1.1.1, ⟨hk.1.1.1.1.1.1.1.2, ⟨hk.1.1.1.1.1.1.2, ⟨hk.1.1.1.1.1.2, ⟨hk.1.1.1.1.2, ⟨hk.1.1.1.2, hk.1.1.2⟩⟩⟩⟩⟩⟩⟩⟩))), (xH (xM p0'.out (fun _ hk => ⟨hk.1.1.1.2, ⟨hk.1.1.2, ⟨hk.1.2, ⟨hk.2, ⟨hk.1.1.1.1.1, ⟨hk.1.1.1.1.2.1, ⟨hk.1.1.1.1.2.2.1, ⟨hk.1.1.1.1.2.2.2.1, hk.1.1.1.1.2.2.2.2⟩⟩⟩⟩⟩⟩⟩⟩))), (xH (xM p1'.out (fun _ hk => ⟨hk.1.1.1.2, ⟨hk.1.1.2, ⟨hk.1.2, ⟨hk.2, ⟨hk.1.1.1.1.1, ⟨hk.1.1.1.1.2.1, ⟨hk.1.1.1.1.2.2.1, ⟨hk.1.1.1.1.2.2.2.1, hk.1.1.1.1.2.2.2.2⟩⟩⟩⟩⟩⟩⟩⟩))), (xH (xM p2'.out (fun _ hk => ⟨hk.1.1.1.2, ⟨hk.1.1.2, ⟨hk.1.2, ⟨hk.2, ⟨hk.1.1.1.1.1, ⟨hk.1.1.1.1.2.1, ⟨hk.1.1.1.1.2.2.1, ⟨hk.1.1.1.1.2.2.2.1, hk.1.1.1.1.2.2.2.2⟩⟩⟩⟩⟩⟩⟩⟩))), (xH (xM p3'.out (fun _ hk => ⟨hk.1.1.1.2, ⟨hk.1.1.2, ⟨hk.1.2, ⟨hk.2, ⟨hk.1.1.1.1.1, ⟨hk.1.1.1.1.2.1, ⟨hk.1.1.1.1.2.2.1, ⟨hk.1.1.1.1.2.2.2.1, hk.1.1.1.1.2.2.2.2⟩⟩⟩⟩⟩⟩⟩⟩))), (xH (xM p4'.out (fun _ hk => ⟨hk.1.1.1.2, ⟨hk.1.1.2, ⟨hk.1.2, ⟨hk.2, ⟨hk.1.1.1.1.1, ⟨hk.1.1.1.1.2.1, ⟨hk.1.1.1.1.2.2.1, ⟨hk.1.1.1.1.2.2.2.1, hk.1.1.1.1.2.2.2.2⟩⟩⟩⟩⟩⟩⟩⟩))), (xH (xM p5'.out (fun _ hk => ⟨hk.1.1.1.2, ⟨hk.1.1.2, ⟨hk.1.2, ⟨hk.2, ⟨hk.1.1.1.1.1, ⟨hk.1.1.1.1.2.1, ⟨hk.1.1.1.1.2.2.1, ⟨hk.1.1.1.1.2.2.2.1, hk.1.1.1.1.2.2.2.2⟩⟩⟩⟩⟩⟩⟩⟩))), (yH BK301.out), (yH BK302.out), (yH BK321.out), (yH BK329.out), (yH BK340.out), (yH BK375.out), GW375.out, GE375.out, NB301_375.out, NB375_301.out, NB302_375.out, NB375_302.out, NB321_375.out, NB375_321.out, NB329_375.out, NB375_329.out, NB340_375.out, NB375_340.out, (zH HB.out)⟩)
              ·skip
               refine box_step ?hg (N := 14) ?hd (cs := #[.int .i64 0, .slice none 0 0, .slice none 0 0]) (t := 24) ?hr ?_; (case hd => rfl); (case hg => rfl); (case hr => first | (go_simp; done) | (go_simp; rfl))
               intro gb375 hg w146 hbox hb
               replace p0' := xK p0'.out hb
               replace p1' := xK p1'.out hb
               replace p2' := xK p2'.out hb
               replace p3' := xK p3'.out hb
               replace p4' := xK p4'.out hb
               replace p5' := xK p5'.out hb
               replace HO361 := xK HO361.out hb
               replace HO364 := xK HO364.out hb
               have BK375 := aM (hbox)
               have GW375 := aM ((by rw [hg]; exact (zZ (zH HB.out)) : w.heap.size ≤ gb375))
               have GE375 := aM ((by rw [hg]; exact (zZ (zH HB.out)) : w.heap.size ≤ gb375))
               replace HB := aM (zT (zH HB.out) hb)
               have NB301_375 := nL BK301.out hg
               have NB375_301 := nR BK301.out hg
               replace BK301 := yK BK301.out hb
               have NB302_375 := nL BK302.out hg
               have NB375_302 := nR BK302.out hg
               replace BK302 := yK BK302.out hb
               have NB321_375 := nL BK321.out hg
               have NB375_321 := nR BK321.out hg
               replace BK321 := yK BK321.out hb
               have NB329_375 := nL BK329.out hg
               have NB375_329 := nR BK329.out hg
               replace BK329 := yK BK329.out hb
               have NB340_375 := nL BK340.out hg
               have NB375_340 := nR BK340.out hg
               replace BK340 := yK BK340.out hb
               clear hb hbox hg
               obtain ⟨Ao147, co147, eo147⟩ := Kd.R_slice HO361.out
               (first | subst eo147 | obtain ⟨rfl, rfl⟩ := eI eo147)
               obtain ⟨Ao148, co148, eo148⟩ := Kd.R_slice HO364.out
               (first | subst eo148 | obtain ⟨rfl, rfl⟩ := eI eo148)
               refine hK.out _ _ ⟨yc BK301.out 0, yc BK301.out 1, yc BK301.out 2, yc BK302.out 0, yc BK302.out 1⟩ (fun hHeld => ?_)
               clear hK K
               refine norm_ (a' := ?_) ?_ ?_
               rotate_left
               ·show Act.put _ (some 14) _ = _
                simp only [Act.put, qA, qB, qC, i64_w, i32_w]
                rfl
               refine one_ (i := 4) (N := some 84) #[tT,tT,tT,tT,tT,fF,fF,fF,tT,fF,fF] rfl rfl (one_of HT_.out (by kernel_rfl)) (by decide) (fun K hK => ?_)
               refine gS Try.func31 (by kernel_rfl) rfl #[.agg #[.int .i64 t358, .slice Ao147 t359.length co147, .slice Ao148 t362.length co148], .agg #[.int .i64 t365, .int .i64 t366]] (by rfl) rfl rfl ?_
               with_reducible refine (impl_GiveRoom.calls kj82 t358 _ _ t359 _ _ t362 t365 t366 t367 t368 t371 t374 _ ?side1 ?side2 ?side3 ?side4 A133.out).mono ?_
               (case side1 => repeat (first | exact (Kd.R_reads' HO361.out).2.2 | (with_reducible refine cA ?_ _) | (with_reducible refine cN ?_ _) | (with_reducible refine cD ?_)))
               (case side2 => exact (Kd.R_reads' HO361.out).2.1)
               (case side3 => repeat (first | exact (Kd.R_reads' HO364.out).2.2 | (with_reducible refine cA ?_ _) | (with_reducible refine cN ?_ _) | (with_reducible refine cD ?_)))
               (case side4 => exact (Kd.R_reads' HO364.out).2.1)
               rintro e w149 ⟨v369, v372, rfl, ho0, ho1, hb⟩
               refine ⟨_, rfl, ?_⟩
               have HO370 := aM (xL (Kd.R_new' (Kd.R_new' (Kd.R_new' (Kd.R_new' (Kd.R_new' (Kd.R_new' (Kd.R_new' (Kd.R_new' ho0 (Kd.R_lt (xH p0'.out))) (Kd.R_lt (xH p1'.out))) (Kd.R_lt (xH p2'.out))) (Kd.R_lt (xH p3'.out))) (Kd.R_lt (xH p4'.out))) (Kd.R_lt (xH p5'.out))) (Kd.R_lt (xH HO361.out))) (Kd.R_lt (xH HO364.out))) (zZ (zH HB.out)))
               have HO373 := aM (xL (Kd.R_new' (Kd.R_new' (Kd.R_new' (Kd.R_new' (Kd.R_new' (Kd.R_new' (Kd.R_new' (Kd.R_new' ho1 (Kd.R_lt (xH p0'.out))) (Kd.R_lt (xH p1'.out))) (Kd.R_lt (xH p2'.out))) (Kd.R_lt (xH p3'.out))) (Kd.R_lt (xH p4'.out))) (Kd.R_lt (xH p5'.out))) (Kd.R_lt (xH HO361.out))) (Kd.R_lt (xH HO364.out))) (zZ (zH HB.out)))
               replace p0' := aM (xM (Kd.R_told (Kd.R_told (Kd.R_old (xH p0'.out) hb) (Kd.R_base ho0)) (Kd.R_base ho1)) (fun _ h_ => h_.1))
               replace p1' := aM (xM (Kd.R_told (Kd.R_told (Kd.R_old (xH p1'.out) hb) (Kd.R_base ho0)) (Kd.R_base ho1)) (fun _ h_ => h_.1))
               replace p2' := aM (xM (Kd.R_told (Kd.R_told (Kd.R_old (xH p2'.out) hb) (Kd.R_base ho0)) (Kd.R_base ho1)) (fun _ h_ => h_.1))
               replace p3' := aM (xM (Kd.R_told (Kd.R_told (Kd.R_old (xH p3'.out) hb) (Kd.R_base ho0)) (Kd.R_base ho1)) (fun _ h_ => h_.1))
               replace p4' := aM (xM (Kd.R_told (Kd.R_told (Kd.R_old (xH p4'.out) hb) (Kd.R_base ho0)) (Kd.R_base ho1)) (fun _ h_ => h_.1))
               replace p5' := aM (xM (Kd.R_told (Kd.R_told (Kd.R_old (xH p5'.out) hb) (Kd.R_base ho0)) (Kd.R_base ho1)) (fun _ h_ => h_.1))
               replace HO361 := aM (xM (Kd.R_told (Kd.R_told (Kd.R_old (xH HO361.out) hb) (Kd.R_base ho0)) (Kd.R_base ho1)) (fun _ h_ => h_.1))
               replace HO364 := aM (xM (Kd.R_told (Kd.R_told (Kd.R_old (xH HO364.out) hb) (Kd.R_base ho0)) (Kd.R_base ho1)) (fun _ h_ => h_.1))
               replace BK301 := yK BK301.out hb
               replace BK302 := yK BK302.out hb
               replace BK321 := yK BK321.out hb
               replace BK329 := yK BK329.out hb
               replace BK340 := yK BK340.out hb
               replace BK375 := yK BK375.out hb
               replace HB := aM (zT (zH HB.out) hb)
               (try clear hb); (try clear ho0); (try clear ho1)
               refine hK.out _ _ ⟨yc BK301.out 0, yc BK301.out 1, yc BK301.out 2, yc BK302.out 0, yc BK302.out 1⟩ (fun hHeld => ?_)
               clear hK K
               refine norm_ (a' := ?_) ?_ ?_
               rotate_left
               ·show Act.put _ (some 84) _ = _
                simp only [Act.put, qA, qB, qC, i64_w, i32_w]
                rfl
               refine pure_ (i := 5) (N := some 79) (v := ?_) (a' := ?_) #[tT,tT,tT,tT,tT,tT,fF,fF,tT,fF,fF] rfl rfl (any_of HT_.out (by kernel_rfl)) (fun _ _ _ h => h) (Or.inl ⟨by rfl, ?_⟩) ?_ ?_
               rotate_left
               ·intro w'
                go_simp
                with_reducible rfl
               rotate_left
               ·simp only [Act.put, qA, qB, qC, i64_w, i32_w]
                rfl
               refine pure_ (i := 6) (N := some 85) (v := ?_) (a' := ?_) #[tT,tT,tT,tT,tT,tT,tT,fF,tT,fF,fF] rfl rfl (any_of HT_.out (by kernel_rfl)) (fun _ _ _ h => h) (Or.inl ⟨by rfl, ?_⟩) ?_ ?_
               rotate_left
               ·intro w'
                go_simp
                with_reducible rfl
               rotate_left
               ·simp only [Act.put, qA, qB, qC, i64_w, i32_w]
                rfl
               refine pure_ (i := 7) (N := some 86) (v := ?_) (a' := ?_) #[tT,tT,tT,tT,tT,tT,tT,tT,tT,fF,fF] rfl rfl (any_of HT_.out (by kernel_rfl)) (fun _ _ _ h => h) (Or.inl ⟨by rfl, ?_⟩) ?_ ?_
               rotate_left
               ·intro w'
                go_simp
                with_reducible rfl
               rotate_left
               ·simp only [Act.put, qA, qB, qC, i64_w, i32_w]
                rfl
               exact norm_ (by simp only [putAll, Act.put, qA, qB, qC]) (hCont (.slice Ao147 t359.length co147, .slice Ao148 t362.length co148, v369, v372, gb375) _ ⟨hHeld, (xH (xM HO361.out (fun _ hk => ⟨hk.1.1.1.1.1.1.1.1, ⟨hk.1.2, ⟨hk.2, ⟨hk.1.1.1.1.1.1.1.2, ⟨hk.1.1.1.1.1.1.2, ⟨hk.1.1.1.1.1.2, ⟨hk.1.1.1.1.2, ⟨hk.1.1.1.2, hk.1.1.2⟩⟩⟩⟩⟩⟩⟩⟩))), (xH (xM HO364.out (fun _ hk => ⟨hk.1.1.1.1.1.1.1.1, ⟨hk.1.2, ⟨hk.2, ⟨hk.1.1.1.1.1.1.1.2, ⟨hk.1.1.1.1.1.1.2, ⟨hk.1.1.1.1.1.2, ⟨hk.1.1.1.1.2, ⟨hk.1.1.1.2, hk.1.1.2⟩⟩⟩⟩⟩⟩⟩⟩))), (xH (xM HO370.out (fun _ hk => ⟨hk.1.2, ⟨hk.2, ⟨hk.1.1.1.1.1.1.1.1, ⟨hk.1.1.1.1.1.1.1.2, ⟨hk.1.1.1.1.1.1.2, ⟨hk.1.1.1.1.1.2, ⟨hk.1.1.1.1.2, ⟨hk.1.1.1.2, hk.1.1.2⟩⟩⟩⟩⟩⟩⟩⟩))), (xH (xM HO373.out (fun _ hk => ⟨hk.1.2, ⟨hk.2, ⟨hk.1.1.1.1.1.1.1.1, ⟨hk.1.1.1.1.1.1.1.2, ⟨hk.1.1.1.1.1.1.2, ⟨hk.1.1.1.1.1.2, ⟨hk.1.1.1.1.2, ⟨hk.1.1.1.2, hk.1.1.2⟩⟩⟩⟩⟩⟩⟩⟩))), (xH (xM p0'.out (fun _ hk => ⟨hk.1.1.1.2, ⟨hk.1.1.2, ⟨hk.1.2, ⟨hk.2, ⟨hk.1.1.1.1.1, ⟨hk.1.1.1.1.2.1, ⟨hk.1.1.1.1.2.2.1, ⟨hk.1.1.1.1.2.2.2.1, hk.1.1.1.1.2.2.2.2⟩⟩⟩⟩⟩⟩⟩⟩))), (xH (xM p1'.out (fun _ hk => ⟨hk.1.1.1.2, ⟨hk.1.1.2, ⟨hk.1.2, ⟨hk.2, ⟨hk.1.1.1.1.1, ⟨hk.1.1.1.1.2.1, ⟨hk.1.1.1.1.2.2.1, ⟨hk.1.1.1.1.2.2.2.1, hk.1.1.1.1.2.2.2.2⟩⟩⟩⟩⟩⟩⟩⟩))), (xH (xM p2'.out (fun _ hk => ⟨hk.1.1.1.2, ⟨hk.1.1.2, ⟨hk.1.2, ⟨hk.2, ⟨hk.1.1.1.1.1, ⟨hk.1.1.1.1.2.1, ⟨hk.1.1.1.1.2.2.1, ⟨hk.1.1.1.1.2.2.2.1, hk.1.1.1.1.2.2.2.2⟩⟩⟩⟩⟩⟩⟩⟩))), (xH (xM p3'.out (fun _ hk => ⟨hk.1.1.1.2, ⟨hk.1.1.2, ⟨hk.1.2, ⟨hk.2, ⟨hk.1.1.1.1.1, ⟨hk.1.1.1.1.2.1, ⟨hk.1.1.1.1.2.2.1, ⟨hk.1.1.1.1.2.2.2.1, hk.1.1.1.1.2.2.2.2⟩⟩⟩⟩⟩⟩⟩⟩))), (xH (xM p4'.out (fun _ hk => ⟨hk.1.1.1.2, ⟨hk.1.1.2, ⟨hk.1.2, ⟨hk.2, ⟨hk.1.1.1.1.1, ⟨hk.1.1.1.1.2.1, ⟨hk.1.1.1.1.2.2.1, ⟨hk.1.1.1.1.2.2.2.1, hk.1.1.1.1.2.2.2.2⟩⟩⟩⟩⟩⟩⟩⟩))), (xH (xM p5'.out (fun _ hk => ⟨hk.1.1.1.2, ⟨hk.1.1.2, ⟨hk.1.2, ⟨hk.2, ⟨hk.1.1.1.1.1, ⟨hk.1.1.1.1.2.1, ⟨hk.1.1.1.1.2.2.1, ⟨hk.1.1.1.1.2.2.2.1, hk.1.1.1.1.2.2.2.2⟩⟩⟩⟩⟩⟩⟩⟩))), (yH BK301.out), (yH BK302.out), (yH BK321.out), (yH BK329.out), (yH BK340.out), (yH BK375.out), GW375.out, GE375.out, NB301_375.out, NB375_301.out, NB302_375.out, NB375_302.out, NB321_375.out, NB375_321.out, NB329_375.out, NB375_329.out, NB340_375.out, NB375_340.out, (zH HB.out)⟩)
             ·skip
              refine box_step ?hg (N := 14) ?hd (cs := #[.int .i64 0, .slice none 0 0, .slice none 0 0]) (t := 24) ?hr ?_; (case hd => rfl); (case hg => rfl); (case hr => first | (go_simp; done) | (go_simp; rfl))
              intro gb375 hg w145 hbox hb
              replace p0' := xK p0'.out hb
              replace p1' := xK p1'.out hb
              replace p2' := xK p2'.out hb
              replace p3' := xK p3'.out hb
              replace p4' := xK p4'.out hb
              replace p5' := xK p5'.out hb
              replace HO361 := xK HO361.out hb
              replace HO364 := xK HO364.out hb
              have BK375 := aM (hbox)
              have GW375 := aM ((by rw [hg]; exact (zZ (zH HB.out)) : w.heap.size ≤ gb375))
              have GE375 := aM ((by rw [hg]; exact (zZ (zH HB.out)) : w.heap.size ≤ gb375))
              replace HB := aM (zT (zH HB.out) hb)
              have NB301_375 := nL BK301.out hg
              have NB375_301 := nR BK301.out hg
              replace BK301 := yK BK301.out hb
              have NB302_375 := nL BK302.out hg
              have NB375_302 := nR BK302.out hg
              replace BK302 := yK BK302.out hb
              have NB321_375 := nL BK321.out hg
              have NB375_321 := nR BK321.out hg
              replace BK321 := yK BK321.out hb
              have NB329_375 := nL BK329.out hg
              have NB375_329 := nR BK329.out hg
              replace BK329 := yK BK329.out hb
              have NB340_375 := nL BK340.out hg
              have NB375_340 := nR BK340.out hg
              replace BK340 := yK BK340.out hb
              clear hb hbox hg
              refine hK.out _ _ ⟨yc BK301.out 0, yc BK301.out 1, yc BK301.out 2, yc BK302.out 0, yc BK302.out 1⟩ (fun hHeld => ?_)
              clear hK K
              refine norm_ (a' := ?_) ?_ ?_
              rotate_left
              ·show Act.put _ (some 14) _ = _
               simp only [Act.put, qA, qB, qC, i64_w, i32_w]
               rfl
              refine one_ (i := 3) (N := some 83) #[tT,tT,tT,tT,fF,fF,fF,fF,tT,fF,fF] rfl rfl (one_of HT_.out (by kernel_rfl)) (by decide) (fun K hK => ?_)
              refine gS Try.func30 (by kernel_rfl) rfl #[.agg #[.int .i64 a1_0, .int .i64 a1_1]] (by rfl) rfl rfl ?_
              with_reducible refine (laws_toExtent.calls a1_0 a1_1 t365 t366 _ A132.out).mono ?_
              rintro e w146 ⟨rfl, hb⟩
              refine ⟨_, rfl, ?_⟩
              replace p0' := xK p0'.out hb
              replace p1' := xK p1'.out hb
              replace p2' := xK p2'.out hb
              replace p3' := xK p3'.out hb
              replace p4' := xK p4'.out hb
              replace p5' := xK p5'.out hb
              replace HO361 := xK HO361.out hb
              replace HO364 := xK HO364.out hb
              replace BK301 := yK BK301.out hb
              replace BK302 := yK BK302.out hb
              replace BK321 := yK BK321.out hb
              replace BK329 := yK BK329.out hb
              replace BK340 := yK BK340.out hb
              replace BK375 := yK BK375.out hb
              replace HB := aM (zT (zH HB.out) hb)
              (try clear hb)
              obtain ⟨Ao147, co147, eo147⟩ := Kd.R_slice HO361.out
              (first | subst eo147 | obtain ⟨rfl, rfl⟩ := eI eo147)
              obtain ⟨Ao148, co148, eo148⟩ := Kd.R_slice HO364.out
              (first | subst eo148 | obtain ⟨rfl, rfl⟩ := eI eo148)
              refine hK.out _ _ ⟨yc BK301.out 0, yc BK301.out 1, yc BK301.out 2, yc BK302.out 0, yc BK302.out 1⟩ (fun hHeld => ?_)
              clear hK K
              refine norm_ (a' := ?_) ?_ ?_
              rotate_left
              ·show Act.put _ (some 83) _ = _
               simp only [Act.put, qA, qB, qC, i64_w, i32_w]
               rfl
              refine one_ (i := 4) (N := some 84) #[tT,tT,tT,tT,tT,fF,fF,fF,tT,fF,fF] rfl rfl (one_of HT_.out (by kernel_rfl)) (by decide) (fun K hK => ?_)
              refine gS Try.func31 (by kernel_rfl) rfl #[.agg #[.int .i64 t358, .slice Ao147 t359.length co147, .slice Ao148 t362.length co148], .agg #[.int .i64 t365, .int .i64 t366]] (by rfl) rfl rfl ?_
              with_reducible refine (impl_GiveRoom.calls kj82 t358 _ _ t359 _ _ t362 t365 t366 t367 t368 t371 t374 _ ?side1 ?side2 ?side3 ?side4 A133.out).mono ?_
              (case side1 => repeat (first | exact (Kd.R_reads' HO361.out).2.2 | (with_reducible refine cA ?_ _) | (with_reducible refine cN ?_ _) | (with_reducible refine cD ?_)))
              (case side2 => exact (Kd.R_reads' HO361.out).2.1)
              (case side3 => repeat (first | exact (Kd.R_reads' HO364.out).2.2 | (with_reducible refine cA ?_ _) | (with_reducible refine cN ?_ _) | (with_reducible refine cD ?_)))
              (case side4 => exact (Kd.R_reads' HO364.out).2.1)
              rintro e w149 ⟨v369, v372, rfl, ho0, ho1, hb⟩
              refine ⟨_, rfl, ?_⟩
              have HO370 := aM (xL (Kd.R_new' (Kd.R_new' (Kd.R_new' (Kd.R_new' (Kd.R_new' (Kd.R_new' (Kd.R_new' (Kd.R_new' ho0 (Kd.R_lt (xH p0'.out))) (Kd.R_lt (xH p1'.out))) (Kd.R_lt (xH p2'.out))) (Kd.R_lt (xH p3'.out))) (Kd.R_lt (xH p4'.out))) (Kd.R_lt (xH p5'.out))) (Kd.R_lt (xH HO361.out))) (Kd.R_lt (xH HO364.out))) (zZ (zH HB.out)))
              have HO373 := aM (xL (Kd.R_new' (Kd.R_new' (Kd.R_new' (Kd.R_new' (Kd.R_new' (Kd.R_new' (Kd.R_new' (Kd.R_new' ho1 (Kd.R_lt (xH p0'.out))) (Kd.R_lt (xH p1'.out))) (Kd.R_lt (xH p2'.out))) (Kd.R_lt (xH p3'.out))) (Kd.R_lt (xH p4'.out))) (Kd.R_lt (xH p5'.out))) (Kd.R_lt (xH HO361.out))) (Kd.R_lt (xH HO364.out))) (zZ (zH HB.out)))
              replace p0' := aM (xM (Kd.R_told (Kd.R_told (Kd.R_old (xH p0'.out) hb) (Kd.R_base ho0)) (Kd.R_base ho1)) (fun _ h_ => h_.1))
              replace p1' := aM (xM (Kd.R_told (Kd.R_told (Kd.R_old (xH p1'.out) hb) (Kd.R_base ho0)) (Kd.R_base ho1)) (fun _ h_ => h_.1))
              replace p2' := aM (xM (Kd.R_told (Kd.R_told (Kd.R_old (xH p2'.out) hb) (Kd.R_base ho0)) (Kd.R_base ho1)) (fun _ h_ => h_.1))
              replace p3' := aM (xM (Kd.R_told (Kd.R_told (Kd.R_old (xH p3'.out) hb) (Kd.R_base ho0)) (Kd.R_base ho1)) (fun _ h_ => h_.1))
              replace p4' := aM (xM (Kd.R_told (Kd.R_told (Kd.R_old (xH p4'.out) hb) (Kd.R_base ho0)) (Kd.R_base ho1)) (fun _ h_ => h_.1))
              replace p5' := aM (xM (Kd.R_told (Kd.R_told (Kd.R_old (xH p5'.out) hb) (Kd.R_base ho0)) (Kd.R_base ho1)) (fun _ h_ => h_.1))
              replace HO361 := aM (xM (Kd.R_told (Kd.R_told (Kd.R_old (xH HO361.out) hb) (Kd.R_base ho0)) (Kd.R_base ho1)) (fun _ h_ => h_.1))
              replace HO364 := aM (xM (Kd.R_told (Kd.R_told (Kd.R_old (xH HO364.out) hb) (Kd.R_base ho0)) (Kd.R_base ho1)) (fun _ h_ => h_.1))
              replace BK301 := yK BK301.out hb
              replace BK302 := yK BK302.out hb
              replace BK321 := yK BK321.out hb
              replace BK329 := yK BK329.out hb
              replace BK340 := yK BK340.out hb
              replace BK375 := yK BK375.out hb
              replace HB := aM (zT (zH HB.out) hb)
              (try clear hb); (try clear ho0); (try clear ho1)
              refine hK.out _ _ ⟨yc BK301.out 0, yc BK301.out 1, yc BK301.out 2, yc BK302.out 0, yc BK302.out 1⟩ (fun hHeld => ?_)
              clear hK K
              refine norm_ (a' := ?_) ?_ ?_
              rotate_left
              ·show Act.put _ (some 84) _ = _
               simp only [Act.put, qA, qB, qC, i64_w, i32_w]
               rfl
              refine pure_ (i := 5) (N := some 79) (v := ?_) (a' := ?_) #[tT,tT,tT,tT,tT,tT,fF,fF,tT,fF,fF] rfl rfl (any_of HT_.out (by kernel_rfl)) (fun _ _ _ h => h) (Or.inl ⟨by rfl, ?_⟩) ?_ ?_
              rotate_left
              ·intro w'
               go_simp
               with_reducible rfl
              rotate_left
              ·simp only [Act.put, qA, qB, qC, i64_w, i32_w]
               rfl
              refine pure_ (i := 6) (N := some 85) (v := ?_) (a' := ?_) #[tT,tT,tT,tT,tT,tT,tT,fF,tT,fF,fF] rfl rfl (any_of HT_.out (by kernel_rfl)) (fun _ _ _ h => h) (Or.inl ⟨by rfl, ?_⟩) ?_ ?_
              rotate_left
              ·intro w'
               go_simp
               with_reducible rfl
              rotate_left
              ·simp only [Act.put, qA, qB, qC, i64_w, i32_w]
               rfl
              refine pure_ (i := 7) (N := some 86) (v := ?_) (a' := ?_) #[tT,tT,tT,tT,tT,tT,tT,tT,tT,fF,fF] rfl rfl (any_of HT_.out (by kernel_rfl)) (fun _ _ _ h => h) (Or.inl ⟨by rfl, ?_⟩) ?_ ?_
              rotate_left
              ·intro w'
               go_simp
               with_reducible rfl
              rotate_left
              ·simp only [Act.put, qA, qB, qC, i64_w, i32_w]
               rfl
              exact norm_ (by simp only [putAll, Act.put, qA, qB, qC]) (hCont (.slice Ao147 t359.length co147, .slice Ao148 t362.length co148, v369, v372, gb375) _ ⟨hHeld, (xH (xM HO361.out (fun _ hk => ⟨hk.1.1.1.1.1.1.1.1, ⟨hk.1.2, ⟨hk.2, ⟨hk.1.1.1.1.1.1.1.2, ⟨hk.1.1.1.1.1.1.2, ⟨hk.1.1.1.1.1.2, ⟨hk.1.1.1.1.2, ⟨hk.1.1.1.2, hk.1.1.2⟩⟩⟩⟩⟩⟩⟩⟩))), (xH (xM HO364.out (fun _ hk => ⟨hk.1.1.1.1.1.1.1.1, ⟨hk.1.2, ⟨hk.2, ⟨hk.1.1.1.1.1.1.1.2, ⟨hk.1.1.1.1.1.1.2, ⟨hk.1.1.1.1.1.2, ⟨hk.1.1.1.1.2, ⟨hk.1.1.1.2, hk.1.1.2⟩⟩⟩⟩⟩⟩⟩⟩))), (xH (xM HO370.out (fun _ hk => ⟨hk.1.2, ⟨hk.2, ⟨hk.1.1.1.1.1.1.1.1, ⟨hk.1.1.1.1.1.1.1.2, ⟨hk.1.1.1.1.1.1.2, ⟨hk.1.1.1.1.1.2, ⟨hk.1.1.1.1.2, ⟨hk.1.1.1.2, hk.1.1.2⟩⟩⟩⟩⟩⟩⟩⟩))), (xH (xM HO373.out (fun _ hk => ⟨hk.1.2, ⟨hk.2, ⟨hk.1.1.1.1.1.1.1.1, ⟨hk.1.1.1.1.1.1.1.2, ⟨hk.1.1.1.1.1.1.2, ⟨hk.1.1.1.1.1.2, ⟨hk.1.1.1.1.2, ⟨hk.1.1.1.2, hk.1.1.2⟩⟩⟩⟩⟩⟩⟩⟩))), (xH (xM p0'.out (fun _ hk => ⟨hk.1.1.1.2, ⟨hk.1.1.2, ⟨hk.1.2, ⟨hk.2, ⟨hk.1.1.1.1.1, ⟨hk.1.1.1.1.2.1, ⟨hk.1.1.1.1.2.2.1, ⟨hk.1.1.1.1.2.2.2.1, hk.1.1.1.1.2.2.2.2⟩⟩⟩⟩⟩⟩⟩⟩))), (xH (xM p1'.out (fun _ hk => ⟨hk.1.1.1.2, ⟨hk.1.1.2, ⟨hk.1.2, ⟨hk.2, ⟨hk.1.1.1.1.1, ⟨hk.1.1.1.1.2.1, ⟨hk.1.1.1.1.2.2.1, ⟨hk.1.1.1.1.2.2.2.1, hk.1.1.1.1.2.2.2.2⟩⟩⟩⟩⟩⟩⟩⟩))), (xH (xM p2'.out (fun _ hk => ⟨hk.1.1.1.2, ⟨hk.1.1.2, ⟨hk.1.2, ⟨hk.2, ⟨hk.1.1.1.1.1, ⟨hk.1.1.1.1.2.1, ⟨hk.1.1.1.1.2.2.1, ⟨hk.1.1.1.1.2.2.2.1, hk.1.1.1.1.2.2.2.2⟩⟩⟩⟩⟩⟩⟩⟩))), (xH (xM p3'.out (fun _ hk => ⟨hk.1.1.1.2, ⟨hk.1.1.2, ⟨hk.1.2, ⟨hk.2, ⟨hk.1.1.1.1.1, ⟨hk.1.1.1.1.2.1, ⟨hk.1.1.1.1.2.2.1, ⟨hk.1.1.1.1.2.2.2.1, hk.1.1.1.1.2.2.2.2⟩⟩⟩⟩⟩⟩⟩⟩))), (xH (xM p4'.out (fun _ hk => ⟨hk.1.1.1.2, ⟨hk.1.1.2, ⟨hk.1.2, ⟨hk.2, ⟨hk.1.1.1.1.1, ⟨hk.1.1.1.1.2.1, ⟨hk.1.1.1.1.2.2.1, ⟨hk.1.1.1.1.2.2.2.1, hk.1.1.1.1.2.2.2.2⟩⟩⟩⟩⟩⟩⟩⟩))), (xH (xM p5'.out (fun _ hk => ⟨hk.1.1.1.2, ⟨hk.1.1.2, ⟨hk.1.2, ⟨hk.2, ⟨hk.1.1.1.1.1, ⟨hk.1.1.1.1.2.1, ⟨hk.1.1.1.1.2.2.1, ⟨hk.1.1.1.1.2.2.2.1, hk.1.1.1.1.2.2.2.2⟩⟩⟩⟩⟩⟩⟩⟩))), (yH BK301.out), (yH BK302.out), (yH BK321.out), (yH BK329.out), (yH BK340.out), (yH BK375.out), GW375.out, GE375.out, NB301_375.out, NB375_301.out, NB302_375.out, NB375_302.out, NB321_375.out, NB375_321.out, NB329_375.out, NB375_329.out, NB340_375.out, NB375_340.out, (zH HB.out)⟩)
            ·skip
             refine box_step ?hg (N := 14) ?hd (cs := #[.int .i64 0, .slice none 0 0, .slice none 0 0]) (t := 24) ?hr ?_; (case hd => rfl); (case hg => rfl); (case hr => first | (go_simp; done) | (go_simp; rfl))
             intro gb375 hg w144 hbox hb
             replace p0' := xK p0'.out hb
             replace p1' := xK p1'.out hb
             replace p2' := xK p2'.out hb
             replace p3' := xK p3'.out hb
             replace p4' := xK p4'.out hb
             replace p5' := xK p5'.out hb
             have BK375 := aM (hbox)
             have GW375 := aM ((by rw [hg]; exact (zZ (zH HB.out)) : w.heap.size ≤ gb375))
             have GE375 := aM ((by rw [hg]; exact (zZ (zH HB.out)) : w.heap.size ≤ gb375))
             replace HB := aM (zT (zH HB.out) hb)
             have NB301_375 := nL BK301.out hg
             have NB375_301 := nR BK301.out hg
             replace BK301 := yK BK301.out hb
             have NB302_375 := nL BK302.out hg
             have NB375_302 := nR BK302.out hg
             replace BK302 := yK BK302.out hb
             have NB321_375 := nL BK321.out hg
             have NB375_321 := nR BK321.out hg
             replace BK321 := yK BK321.out hb
             have NB329_375 := nL BK329.out hg
             have NB375_329 := nR BK329.out hg
             replace BK329 := yK BK329.out hb
             have NB340_375 := nL BK340.out hg
             have NB375_340 := nR BK340.out hg
             replace BK340 := yK BK340.out hb
             clear hb hbox hg
             refine hK.out _ _ ⟨yc BK301.out 0, yc BK301.out 1, yc BK301.out 2, yc BK302.out 0, yc BK302.out 1⟩ (fun hHeld => ?_)
             clear hK K
             refine norm_ (a' := ?_) ?_ ?_
             rotate_left
             ·show Act.put _ (some 14) _ = _
              simp only [Act.put, qA, qB, qC, i64_w, i32_w]
              rfl
             refine one_ (i := 1) (N := some 81) #[tT,tT,tT,fF,fF,fF,fF,fF,tT,fF,fF] rfl rfl (one_of HT_.out (by kernel_rfl)) (by decide) (fun K hK => ?_)
             refine gS Try.func18 (by kernel_rfl) rfl #[.agg #[.int .i64 a0_0, .slice A0_1 l0_1.length c0_1, .slice A0_2 l0_2.length c0_2]] (by rfl) rfl rfl ?_
             with_reducible refine (laws_toFree.calls kj82 a0_0 _ _ l0_1 _ _ l0_2 t358 t359 t362 _ ?side1 ?side2 ?side3 ?side4 A131.out).mono ?_
             (case side1 => exact cK HR0_1.out HB.out)
             (case side2 => exact HC0_1.out)
             (case side3 => exact cK HR0_2.out HB.out)
             (case side4 => exact HC0_2.out)
             rintro e w145 ⟨v360, v363, rfl, ho0, ho1, hb⟩
             refine ⟨_, rfl, ?_⟩
             have HO361 := aM (xL (Kd.R_new' (Kd.R_new' (Kd.R_new' (Kd.R_new' (Kd.R_new' (Kd.R_new' ho0 (Kd.R_lt (xH p0'.out))) (Kd.R_lt (xH p1'.out))) (Kd.R_lt (xH p2'.out))) (Kd.R_lt (xH p3'.out))) (Kd.R_lt (xH p4'.out))) (Kd.R_lt (xH p5'.out))) (zZ (zH HB.out)))
             have HO364 := aM (xL (Kd.R_new' (Kd.R_new' (Kd.R_new' (Kd.R_new' (Kd.R_new' (Kd.R_new' ho1 (Kd.R_lt (xH p0'.out))) (Kd.R_lt (xH p1'.out))) (Kd.R_lt (xH p2'.out))) (Kd.R_lt (xH p3'.out))) (Kd.R_lt (xH p4'.out))) (Kd.R_lt (xH p5'.out))) (zZ (zH HB.out)))
             replace p0' := aM (xM (Kd.R_told (Kd.R_told (Kd.R_old (xH p0'.out) hb) (Kd.R_base ho0)) (Kd.R_base ho1)) (fun _ h_ => h_.1))
             replace p1' := aM (xM (Kd.R_told (Kd.R_told (Kd.R_old (xH p1'.out) hb) (Kd.R_base ho0)) (Kd.R_base ho1)) (fun _ h_ => h_.1))
             replace p2' := aM (xM (Kd.R_told (Kd.R_told (Kd.R_old (xH p2'.out) hb) (Kd.R_base ho0)) (Kd.R_base ho1)) (fun _ h_ => h_.1))
             replace p3' := aM (xM (Kd.R_told (Kd.R_told (Kd.R_old (xH p3'.out) hb) (Kd.R_base ho0)) (Kd.R_base ho1)) (fun _ h_ => h_.1))
             replace p4' := aM (xM (Kd.R_told (Kd.R_told (Kd.R_old (xH p4'.out) hb) (Kd.R_base ho0)) (Kd.R_base ho1)) (fun _ h_ => h_.1))
             replace p5' := aM (xM (Kd.R_told (Kd.R_told (Kd.R_old (xH p5'.out) hb) (Kd.R_base ho0)) (Kd.R_base ho1)) (fun _ h_ => h_.1))
             replace BK301 := yK BK301.out hb
             replace BK302 := yK BK302.out hb
             replace BK321 := yK BK321.out hb
             replace BK329 := yK BK329.out hb
             replace BK340 := yK BK340.out hb
             replace BK375 := yK BK375.out hb
             replace HB := aM (zT (zH HB.out) hb)
             (try clear hb); (try clear ho0); (try clear ho1)
             refine hK.out _ _ ⟨yc BK301.out 0, yc BK301.out 1, yc BK301.out 2, yc BK302.out 0, yc BK302.out 1⟩ (fun hHeld => ?_)
             clear hK K
             refine norm_ (a' := ?_) ?_ ?_
             rotate_left
             ·show Act.put _ (some 81) _ = _
              simp only [Act.put, qA, qB, qC, i64_w, i32_w]
              rfl
             refine one_ (i := 3) (N := some 83) #[tT,tT,tT,tT,fF,fF,fF,fF,tT,fF,fF] rfl rfl (one_of HT_.out (by kernel_rfl)) (by decide) (fun K hK => ?_)
             refine gS Try.func30 (by kernel_rfl) rfl #[.agg #[.int .i64 a1_0, .int .i64 a1_1]] (by rfl) rfl rfl ?_
             with_reducible refine (laws_toExtent.calls a1_0 a1_1 t365 t366 _ A132.out).mono ?_
             rintro e w146 ⟨rfl, hb⟩
             refine ⟨_, rfl, ?_⟩
             replace p0' := xK p0'.out hb
             replace p1' := xK p1'.out hb
             replace p2' := xK p2'.out hb
             replace p3' := xK p3'.out hb
             replace p4' := xK p4'.out hb
             replace p5' := xK p5'.out hb
             replace HO361 := xK HO361.out hb
             replace HO364 := xK HO364.out hb
             replace BK301 := yK BK301.out hb
             replace BK302 := yK BK302.out hb
             replace BK321 := yK BK321.out hb
             replace BK329 := yK BK329.out hb
             replace BK340 := yK BK340.out hb
             replace BK375 := yK BK375.out hb
             replace HB := aM (zT (zH HB.out) hb)
             (try clear hb)
             obtain ⟨Ao147, co147, eo147⟩ := Kd.R_slice HO361.out
             (first | subst eo147 | obtain ⟨rfl, rfl⟩ := eI eo147)
             obtain ⟨Ao148, co148, eo148⟩ := Kd.R_slice HO364.out
             (first | subst eo148 | obtain ⟨rfl, rfl⟩ := eI eo148)
             refine hK.out _ _ ⟨yc BK301.out 0, yc BK301.out 1, yc BK301.out 2, yc BK302.out 0, yc BK302.out 1⟩ (fun hHeld => ?_)
             clear hK K
             refine norm_ (a' := ?_) ?_ ?_
             rotate_left
             ·show Act.put _ (some 83) _ = _
              simp only [Act.put, qA, qB, qC, i64_w, i32_w]
              rfl
             refine one_ (i := 4) (N := some 84) #[tT,tT,tT,tT,tT,fF,fF,fF,tT,fF,fF] rfl rfl (one_of HT_.out (by kernel_rfl)) (by decide) (fun K hK => ?_)
             refine gS Try.func31 (by kernel_rfl) rfl #[.agg #[.int .i64 t358, .slice Ao147 t359.length co147, .slice Ao148 t362.length co148], .agg #[.int .i64 t365, .int .i64 t366]] (by rfl) rfl rfl ?_
             with_reducible refine (impl_GiveRoom.calls kj82 t358 _ _ t359 _ _ t362 t365 t366 t367 t368 t371 t374 _ ?side1 ?side2 ?side3 ?side4 A133.out).mono ?_
             (case side1 => repeat (first | exact (Kd.R_reads' HO361.out).2.2 | (with_reducible refine cA ?_ _) | (with_reducible refine cN ?_ _) | (with_reducible refine cD ?_)))
             (case side2 => exact (Kd.R_reads' HO361.out).2.1)
             (case side3 => repeat (first | exact (Kd.R_reads' HO364.out).2.2 | (with_reducible refine cA ?_ _) | (with_reducible refine cN ?_ _) | (with_reducible refine cD ?_)))
             (case side4 => exact (Kd.R_reads' HO364.out).2.1)
             rintro e w149 ⟨v369, v372, rfl, ho0, ho1, hb⟩
             refine ⟨_, rfl, ?_⟩
             have HO370 := aM (xL (Kd.R_new' (Kd.R_new' (Kd.R_new' (Kd.R_new' (Kd.R_new' (Kd.R_new' (Kd.R_new' (Kd.R_new' ho0 (Kd.R_lt (xH p0'.out))) (Kd.R_lt (xH p1'.out))) (Kd.R_lt (xH p2'.out))) (Kd.R_lt (xH p3'.out))) (Kd.R_lt (xH p4'.out))) (Kd.R_lt (xH p5'.out))) (Kd.R_lt (xH HO361.out))) (Kd.R_lt (xH HO364.out))) (zZ (zH HB.out)))
             have HO373 := aM (xL (Kd.R_new' (Kd.R_new' (Kd.R_new' (Kd.R_new' (Kd.R_new' (Kd.R_new' (Kd.R_new' (Kd.R_new' ho1 (Kd.R_lt (xH p0'.out))) (Kd.R_lt (xH p1'.out))) (Kd.R_lt (xH p2'.out))) (Kd.R_lt (xH p3'.out))) (Kd.R_lt (xH p4'.out))) (Kd.R_lt (xH p5'.out))) (Kd.R_lt (xH HO361.out))) (Kd.R_lt (xH HO364.out))) (zZ (zH HB.out)))
             replace p0' := aM (xM (Kd.R_told (Kd.R_told (Kd.R_old (xH p0'.out) hb) (Kd.R_base ho0)) (Kd.R_base ho1)) (fun _ h_ => h_.1))
             replace p1' := aM (xM (Kd.R_told (Kd.R_told (Kd.R_old (xH p1'.out) hb) (Kd.R_base ho0)) (Kd.R_base ho1)) (fun _ h_ => h_.1))
             replace p2' := aM (xM (Kd.R_told (Kd.R_told (Kd.R_old (xH p2'.out) hb) (Kd.R_base ho0)) (Kd.R_base ho1)) (fun _ h_ => h_.1))
             replace p3' := aM (xM (Kd.R_told (Kd.R_told (Kd.R_old (xH p3'.out) hb) (Kd.R_base ho0)) (Kd.R_base ho1)) (fun _ h_ => h_.1))
             replace p4' := aM (xM (Kd.R_told (Kd.R_told (Kd.R_old (xH p4'.out) hb) (Kd.R_base ho0)) (Kd.R_base ho1)) (fun _ h_ => h_.1))
             replace p5' := aM (xM (Kd.R_told (Kd.R_told (Kd.R_old (xH p5'.out) hb) (Kd.R_base ho0)) (Kd.R_base ho1)) (fun _ h_ => h_.1))
             replace HO361 := aM (xM (Kd.R_told (Kd.R_told (Kd.R_old (xH HO361.out) hb) (Kd.R_base ho0)) (Kd.R_base ho1)) (fun _ h_ => h_.1))
             replace HO364 := aM (xM (Kd.R_told (Kd.R_told (Kd.R_old (xH HO364.out) hb) (Kd.R_base ho0)) (Kd.R_base ho1)) (fun _ h_ => h_.1))
             replace BK301 := yK BK301.out hb
             replace BK302 := yK BK302.out hb
             replace BK321 := yK BK321.out hb
             replace BK329 := yK BK329.out hb
             replace BK340 := yK BK340.out hb
             replace BK375 := yK BK375.out hb
             replace HB := aM (zT (zH HB.out) hb)
             (try clear hb); (try clear ho0); (try clear ho1)
             refine hK.out _ _ ⟨yc BK301.out 0, yc BK301.out 1, yc BK301.out 2, yc BK302.out 0, yc BK302.out 1⟩ (fun hHeld => ?_)
             clear hK K
             refine norm_ (a' := ?_) ?_ ?_
             rotate_left
             ·show Act.put _ (some 84) _ = _
              simp only [Act.put, qA, qB, qC, i64_w, i32_w]
              rfl
             refine pure_ (i := 5) (N := some 79) (v := ?_) (a' := ?_) #[tT,tT,tT,tT,tT,tT,fF,fF,tT,fF,fF] rfl rfl (any_of HT_.out (by kernel_rfl)) (fun _ _ _ h => h) (Or.inl ⟨by rfl, ?_⟩) ?_ ?_
             rotate_left
             ·intro w'
              go_simp
              with_reducible rfl
             rotate_left
             ·simp only [Act.put, qA, qB, qC, i64_w, i32_w]
              rfl
             refine pure_ (i := 6) (N := some 85) (v := ?_) (a' := ?_) #[tT,tT,tT,tT,tT,tT,tT,fF,tT,fF,fF] rfl rfl (any_of HT_.out (by kernel_rfl)) (fun _ _ _ h => h) (Or.inl ⟨by rfl, ?_⟩) ?_ ?_
             rotate_left
             ·intro w'
              go_simp
              with_reducible rfl
             rotate_left
             ·simp only [Act.put, qA, qB, qC, i64_w, i32_w]
              rfl
             refine pure_ (i := 7) (N := some 86) (v := ?_) (a' := ?_) #[tT,tT,tT,tT,tT,tT,tT,tT,tT,fF,fF] rfl rfl (any_of HT_.out (by kernel_rfl)) (fun _ _ _ h => h) (Or.inl ⟨by rfl, ?_⟩) ?_ ?_
             rotate_left
             ·intro w'
              go_simp
              with_reducible rfl
             rotate_left
             ·simp only [Act.put, qA, qB, qC, i64_w, i32_w]
              rfl
             exact norm_ (by simp only [putAll, Act.put, qA, qB, qC]) (hCont (.slice Ao147 t359.length co147, .slice Ao148 t362.length co148, v369, v372, gb375) _ ⟨hHeld, (xH (xM HO361.out (fun _ hk => ⟨hk.1.1.1.1.1.1.1.1, ⟨hk.1.2, ⟨hk.2, ⟨hk.1.1.1.1.1.1.1.2, ⟨hk.1.1.1.1.1.1.2, ⟨hk.1.1.1.1.1.2, ⟨hk.1.1.1.1.2, ⟨hk.1.1.1.2, hk.1.1.2⟩⟩⟩⟩⟩⟩⟩⟩))), (xH (xM HO364.out (fun _ hk => ⟨hk.1.1.1.1.1.1.1.1, ⟨hk.1.2, ⟨hk.2, ⟨hk.1.1.1.1.1.1.1.2, ⟨hk.1.1.1.1.1.1.2, ⟨hk.1.1.1.1.1.2, ⟨hk.1.1.1.1.2, ⟨hk.1.1.1.2, hk.1.1.2⟩⟩⟩⟩⟩⟩⟩⟩))), (xH (xM HO370.out (fun _ hk => ⟨hk.1.2, ⟨hk.2, ⟨hk.1.1.1.1.1.1.1.1, ⟨hk.1.1.1.1.1.1.1.2, ⟨hk.1.1.1.1.1.1.2, ⟨hk.1.1.1.1.1.2, ⟨hk.1.1.1.1.2, ⟨hk.1.1.1.2, hk.1.1.2⟩⟩⟩⟩⟩⟩⟩⟩))), (xH (xM HO373.out (fun _ hk => ⟨hk.1.2, ⟨hk.2, ⟨hk.1.1.1.1.1.1.1.1, ⟨hk.1.1.1.1.1.1.1.2, ⟨hk.1.1.1.1.1.1.2, ⟨hk.1.1.1.1.1.2, ⟨hk.1.1.1.1.2, ⟨hk.1.1.1.2, hk.1.1.2⟩⟩⟩⟩⟩⟩⟩⟩))), (xH (xM p0'.out (fun _ hk => ⟨hk.1.1.1.2, ⟨hk.1.1.2, ⟨hk.1.2, ⟨hk.2, ⟨hk.1.1.1.1.1, ⟨hk.1.1.1.1.2.1, ⟨hk.1.1.1.1.2.2.1, ⟨hk.1.1.1.1.2.2.2.1, hk.1.1.1.1.2.2.2.2⟩⟩⟩⟩⟩⟩⟩⟩))), (xH (xM p1'.out (fun _ hk => ⟨hk.1.1.1.2, ⟨hk.1.1.2, ⟨hk.1.2, ⟨hk.2, ⟨hk.1.1.1.1.1, ⟨hk.1.1.1.1.2.1, ⟨hk.1.1.1.1.2.2.1, ⟨hk.1.1.1.1.2.2.2.1, hk.1.1.1.1.2.2.2.2⟩⟩⟩⟩⟩⟩⟩⟩))), (xH (xM p2'.out (fun _ hk => ⟨hk.1.1.1.2, ⟨hk.1.1.2, ⟨hk.1.2, ⟨hk.2, ⟨hk.1.1.1.1.1, ⟨hk.1.1.1.1.2.1, ⟨hk.1.1.1.1.2.2.1, ⟨hk.1.1.1.1.2.2.2.1, hk.1.1.1.1.2.2.2.2⟩⟩⟩⟩⟩⟩⟩⟩))), (xH (xM p3'.out (fun _ hk => ⟨hk.1.1.1.2, ⟨hk.1.1.2, ⟨hk.1.2, ⟨hk.2, ⟨hk.1.1.1.1.1, ⟨hk.1.1.1.1.2.1, ⟨hk.1.1.1.1.2.2.1, ⟨hk.1.1.1.1.2.2.2.1, hk.1.1.1.1.2.2.2.2⟩⟩⟩⟩⟩⟩⟩⟩))), (xH (xM p4'.out (fun _ hk => ⟨hk.1.1.1.2, ⟨hk.1.1.2, ⟨hk.1.2, ⟨hk.2, ⟨hk.1.1.1.1.1, ⟨hk.1.1.1.1.2.1, ⟨hk.1.1.1.1.2.2.1, ⟨hk.1.1.1.1.2.2.2.1, hk.1.1.1.1.2.2.2.2⟩⟩⟩⟩⟩⟩⟩⟩))), (xH (xM p5'.out (fun _ hk => ⟨hk.1.1.1.2, ⟨hk.1.1.2, ⟨hk.1.2, ⟨hk.2, ⟨hk.1.1.1.1.1, ⟨hk.1.1.1.1.2.1, ⟨hk.1.1.1.1.2.2.1, ⟨hk.1.1.1.1.2.2.2.1, hk.1.1.1.1.2.2.2.2⟩⟩⟩⟩⟩⟩⟩⟩))), (yH BK301.out), (yH BK302.out), (yH BK321.out), (yH BK329.out), (yH BK340.out), (yH BK375.out), GW375.out, GE375.out, NB301_375.out, NB375_301.out, NB302_375.out, NB375_302.out, NB321_375.out, NB375_321.out, NB329_375.out, NB375_329.out, NB340_375.out, NB375_340.out, (zH HB.out)⟩)
           rintro ⟨v360, v363, v369, v372, gb375⟩ w150 ⟨hS_, h0_, h1_, h2_, h3_, h4_, h5_, h6_, h7_, h8_, h9_, h10_, h11_, h12_, h13_, h14_, h15_, h16_, h17_, h18_, h19_, h20_, h21_, h22_, h23_, h24_, h25_, h26_, h27_, h28_⟩
           (try dsimp only at h0_ h1_ h2_ h3_ h4_ h5_ h6_ h7_ h8_ h9_ h10_ h11_ h12_ h13_ h14_ h15_ h16_ h17_ h18_ h19_ h20_ h21_ h22_ h23_ h24_ h25_ h26_ h27_ h28_)
           have n0_ := aM h0_
           have n1_ := aM h1_
           have n2_ := aM h2_
           have n3_ := aM h3_
           have n4_ := aM h4_
           have n5_ := aM h5_
           have n6_ := aM h6_
           have n7_ := aM h7_
           have n8_ := aM h8_
           have n9_ := aM h9_
           have n10_ := aM h10_
           have n11_ := aM h11_
           have n12_ := aM h12_
           have n13_ := aM h13_
           have n14_ := aM h14_
           have n15_ := aM h15_
           have n16_ := aM h16_
           have n17_ := aM h17_
           have n18_ := aM h18_
           have n19_ := aM h19_
           have n20_ := aM h20_
           have n21_ := aM h21_
           have n22_ := aM h22_
           have n23_ := aM h23_
           have n24_ := aM h24_
           have n25_ := aM h25_
           have n26_ := aM h26_
           have n27_ := aM h27_
           have n28_ := aM h28_
           clear p0'
           clear p1'
           clear p2'
           clear p3'
           clear p4'
           clear p5'
           clear BK301 BK302 BK321 BK329 BK340 HB h0_ h1_ h2_ h3_ h4_ h5_ h6_ h7_ h8_ h9_ h10_ h11_ h12_ h13_ h14_ h15_ h16_ h17_ h18_ h19_ h20_ h21_ h22_ h23_ h24_ h25_ h26_ h27_ h28_
           have HO361 := n0_
           have HO364 := n1_
           have HO370 := n2_
           have HO373 := n3_
           have p0' := n4_
           have p1' := n5_
           have p2' := n6_
           have p3' := n7_
           have p4' := n8_
           have p5' := n9_
           have BK301 := n10_
           have BK302 := n11_
           have BK321 := n12_
           have BK329 := n13_
           have BK340 := n14_
           have BK375 := n15_
           have GW375 := n16_
           have GE375 := n17_
           have NB301_375 := n18_
           have NB375_301 := n19_
           have NB302_375 := n20_
           have NB375_302 := n21_
           have NB321_375 := n22_
           have NB375_321 := n23_
           have NB329_375 := n24_
           have NB375_329 := n25_
           have NB340_375 := n26_
           have NB375_340 := n27_
           have HB := n28_
           clear n0_ n1_ n2_ n3_ n4_ n5_ n6_ n7_ n8_ n9_ n10_ n11_ n12_ n13_ n14_ n15_ n16_ n17_ n18_ n19_ n20_ n21_ n22_ n23_ n24_ n25_ n26_ n27_ n28_
           have hHeld : w150.cell? ⟨gb301, 0, none⟩ = some (.int .i64 a0_0) ∧ w150.cell? ⟨gb301, 1, none⟩ = some (.slice A0_1 l0_1.length c0_1) ∧ w150.cell? ⟨gb301, 2, none⟩ = some (.slice A0_2 l0_2.length c0_2) ∧ w150.cell? ⟨gb302, 0, none⟩ = some (.int .i64 a1_0) ∧ w150.cell? ⟨gb302, 1, none⟩ = some (.int .i64 a1_1) := hS_
           obtain ⟨Ao152, co152, eo152⟩ := Kd.R_slice HO370.out
           (first | subst eo152 | obtain ⟨rfl, rfl⟩ := eI eo152)
           obtain ⟨Ao154, co154, eo154⟩ := Kd.R_slice HO373.out
           (first | subst eo154 | obtain ⟨rfl, rfl⟩ := eI eo154)
           refine norm_ (a' := ?_) ?_ ?_
           rotate_left
           ·simp only [putAll, Act.put, qA, qB, qC]
            rfl
           refine one_ (i := 9) (N := none) #[tT,tT,tT,tT,tT,tT,tT,tT,tT,tT,fF] rfl rfl (one_of HT_.out (by kernel_rfl)) (by decide) (fun K hK => ?_)
           have hs151 : w150.cell? ⟨gb375, 0, none⟩ = some (.int .i64 0) := yc BK375.out 0
           have hfs151 := yZ BK375.out 0
           have hns151_0 := NB301_375.out
           have hns151_1 := NB302_375.out
           have hns151_2 := NB321_375.out
           have hns151_3 := NB329_375.out
           have hns151_4 := NB340_375.out
           have hms151_0 := NB375_301.out
           have hms151_1 := NB375_302.out
           have hms151_2 := NB375_321.out
           have hms151_3 := NB375_329.out
           have hms151_4 := NB375_340.out
           have hs153 : w150.cell? ⟨gb375, 1, none⟩ = some (.slice none 0 0) := yc BK375.out 1
           have hfs153 := yZ BK375.out 1
           have hns153_0 := NB301_375.out
           have hns153_1 := NB302_375.out
           have hns153_2 := NB321_375.out
           have hns153_3 := NB329_375.out
           have hns153_4 := NB340_375.out
           have hms153_0 := NB375_301.out
           have hms153_1 := NB375_302.out
           have hms153_2 := NB375_321.out
           have hms153_3 := NB375_329.out
           have hms153_4 := NB375_340.out
           have hs155 : w150.cell? ⟨gb375, 2, none⟩ = some (.slice none 0 0) := yc BK375.out 2
           have hfs155 := yZ BK375.out 2
           have hns155_0 := NB301_375.out
           have hns155_1 := NB302_375.out
           have hns155_2 := NB321_375.out
           have hns155_3 := NB329_375.out
           have hns155_4 := NB340_375.out
           have hms155_0 := NB375_301.out
           have hms155_1 := NB375_302.out
           have hms155_2 := NB375_321.out
           have hms155_3 := NB375_329.out
           have hms155_4 := NB375_340.out
           refine skip_ (w1 := ?_) (by rfl) rfl ?_ ?_
           rotate_left
           ·go_simp
            rfl
           refine hK.out _ _ ⟨((cell_far (p := ⟨gb375, _, none⟩) NB301_375.out _).trans (((cell_far (p := ⟨gb375, _, none⟩) NB301_375.out _).trans (((cell_far (p := ⟨gb375, _, none⟩) NB301_375.out _).trans (hHeld.1)))))), ((cell_far (p := ⟨gb375, _, none⟩) NB301_375.out _).trans (((cell_far (p := ⟨gb375, _, none⟩) NB301_375.out _).trans (((cell_far (p := ⟨gb375, _, none⟩) NB301_375.out _).trans (hHeld.2.1)))))), ((cell_far (p := ⟨gb375, _, none⟩) NB301_375.out _).trans (((cell_far (p := ⟨gb375, _, none⟩) NB301_375.out _).trans (((cell_far (p := ⟨gb375, _, none⟩) NB301_375.out _).trans (hHeld.2.2.1)))))), ((cell_far (p := ⟨gb375, _, none⟩) NB302_375.out _).trans (((cell_far (p := ⟨gb375, _, none⟩) NB302_375.out _).trans (((cell_far (p := ⟨gb375, _, none⟩) NB302_375.out _).trans (hHeld.2.2.2.1)))))), ((cell_far (p := ⟨gb375, _, none⟩) NB302_375.out _).trans (((cell_far (p := ⟨gb375, _, none⟩) NB302_375.out _).trans (((cell_far (p := ⟨gb375, _, none⟩) NB302_375.out _).trans (hHeld.2.2.2.2))))))⟩ (fun hHeld => ?_)
           clear hK K
           refine pure_ (i := 10) (N := some 15) (v := ?_) (a' := ?_) #[tT,tT,tT,tT,tT,tT,tT,tT,tT,tT,tT] rfl rfl (any_of HT_.out (by kernel_rfl)) (fun _ _ _ h => h) (Or.inl ⟨by rfl, ?_⟩) ?_ ?_
           rotate_left
           ·intro w'
            go_simp
            with_reducible rfl
           rotate_left
           ·simp only [Act.put, qA, qB, qC, i64_w, i32_w]
            rfl
           refine done_ (done_of HT_.out (by kernel_rfl)) ?_
           go_upto_region 25 with (fail)
           go_cut [95] (fun v95 wc => ∃ (kq : Nat) (x95_133 : Bool), v95 = .bool x95_133 ∧ Aside0 (laws_FnExactGiveRoom.j2 kq t354 x95_133 t332 t355 t356 = some r) ∧ Aside0 (kq ≤ kj82) ∧ Aside0 (Kd.R k49 49 wc w.heap.size (fun k_ => some k_ ≠ oB Ao33 t317.length co33 ∧ some k_ ≠ oB Ao43 t351.length co43 ∧ some k_ ≠ oB Ao44 t352.length co44 ∧ some k_ ≠ oB Ao52 t333.length co52 ∧ some k_ ≠ oB Ao54 t336.length co54 ∧ some k_ ≠ oB Ao152 t368.length co152 ∧ some k_ ≠ oB Ao154 t371.length co154) (.slice Ao31 t314.length co31) t314) ∧ Aside0 (Kd.R k49 49 wc w.heap.size (fun k_ => some k_ ≠ oB Ao31 t314.length co31 ∧ some k_ ≠ oB Ao43 t351.length co43 ∧ some k_ ≠ oB Ao44 t352.length co44 ∧ some k_ ≠ oB Ao52 t333.length co52 ∧ some k_ ≠ oB Ao54 t336.length co54 ∧ some k_ ≠ oB Ao152 t368.length co152 ∧ some k_ ≠ oB Ao154 t371.length co154) (.slice Ao33 t317.length co33) t317) ∧ Aside0 (Kd.R k49 49 wc w.heap.size (fun k_ => some k_ ≠ oB Ao31 t314.length co31 ∧ some k_ ≠ oB Ao33 t317.length co33 ∧ some k_ ≠ oB Ao44 t352.length co44 ∧ some k_ ≠ oB Ao52 t333.length co52 ∧ some k_ ≠ oB Ao54 t336.length co54 ∧ some k_ ≠ oB Ao152 t368.length co152 ∧ some k_ ≠ oB Ao154 t371.length co154) (.slice Ao43 t351.length co43) t351) ∧ Aside0 (Kd.R k49 49 wc w.heap.size (fun k_ => some k_ ≠ oB Ao31 t314.length co31 ∧ some k_ ≠ oB Ao33 t317.length co33 ∧ some k_ ≠ oB Ao43 t351.length co43 ∧ some k_ ≠ oB Ao52 t333.length co52 ∧ some k_ ≠ oB Ao54 t336.length co54 ∧ some k_ ≠ oB Ao152 t368.length co152 ∧ some k_ ≠ oB Ao154 t371.length co154) (.slice Ao44 t352.length co44) t352) ∧ Aside0 (Kd.R k49 49 wc w.heap.size (fun k_ => some k_ ≠ oB Ao31 t314.length co31 ∧ some k_ ≠ oB Ao33 t317.length co33 ∧ some k_ ≠ oB Ao43 t351.length co43 ∧ some k_ ≠ oB Ao44 t352.length co44 ∧ some k_ ≠ oB Ao54 t336.length co54 ∧ some k_ ≠ oB Ao152 t368.length co152 ∧ some k_ ≠ oB Ao154 t371.length co154) (.slice Ao52 t333.length co52) t355) ∧ Aside0 (Kd.R k49 49 wc w.heap.size (fun k_ => some k_ ≠ oB Ao31 t314.length co31 ∧ some k_ ≠ oB Ao33 t317.length co33 ∧ some k_ ≠ oB Ao43 t351.length co43 ∧ some k_ ≠ oB Ao44 t352.length co44 ∧ some k_ ≠ oB Ao52 t333.length co52 ∧ some k_ ≠ oB Ao152 t368.length co152 ∧ some k_ ≠ oB Ao154 t371.length co154) (.slice Ao54 t336.length co54) t356) ∧ Aside0 (Kd.R k49 49 wc w.heap.size (fun k_ => some k_ ≠ oB Ao31 t314.length co31 ∧ some k_ ≠ oB Ao33 t317.length co33 ∧ some k_ ≠ oB Ao43 t351.length co43 ∧ some k_ ≠ oB Ao44 t352.length co44 ∧ some k_ ≠ oB Ao52 t333.length co52 ∧ some k_ ≠ oB Ao54 t336.length co54 ∧ some k_ ≠ oB Ao154 t371.length co154) (.slice Ao152 t368.length co152) t368) ∧ Aside0 (Kd.R k49 49 wc w.heap.size (fun k_ => some k_ ≠ oB Ao31 t314.length co31 ∧ some k_ ≠ oB Ao33 t317.length co33 ∧ some k_ ≠ oB Ao43 t351.length co43 ∧ some k_ ≠ oB Ao44 t352.length co44 ∧ some k_ ≠ oB Ao52 t333.length co52 ∧ some k_ ≠ oB Ao54 t336.length co54 ∧ some k_ ≠ oB Ao152 t368.length co152) (.slice Ao154 t371.length co154) t371) ∧ Aside0 (wc.heap[gb301]? = some (.cells #[.int .i64 a0_0, (.slice A0_1 l0_1.length c0_1), (.slice A0_2 l0_2.length c0_2)] 32 (0, 0))) ∧ Aside0 (wc.heap[gb302]? = some (.cells #[.int .i64 a1_0, .int .i64 a1_1] 47 (0, 0))) ∧ Aside0 (wc.heap[gb321]? = some (.cells #[.int .i64 t313, (.slice Ao31 t314.length co31), (.slice Ao33 t317.length co33)] 24 (0, 0))) ∧ Aside0 (wc.heap[gb329]? = some (.cells #[.int .i64 t322, (.slice Ao43 t351.length co43), (.slice Ao44 t352.length co44)] 24 (0, 0))) ∧ Aside0 (wc.heap[gb340]? = some (.cells #[.int .i64 t332, (.slice Ao52 t333.length co52), (.slice Ao54 t336.length co54)] 24 (0, 0))) ∧ Aside0 (wc.heap[gb375]? = some (.cells #[.int .i64 t367, (.slice Ao152 t368.length co152), (.slice Ao154 t371.length co154)] 24 (0, 0))) ∧ Aside0 (Below w.heap.size w wc))
           case first =>
            have H := HC134.out
            clear HC134
            replace H := Option.bind_eq_some_iff.mp H
            obtain ⟨t376, A1560, H⟩ := H
            replace H : (if t376 = true then (laws_FnExactGiveRoom.j2 kj82 t354 (t374 != t320) t332 t355 t356) else (laws_FnExactGiveRoom.j2 kj82 t354 true t332 t355 t356)) = some r := H
            have A156 := aM A1560
            clear A1560
            by_cases c157 : t376 = true
            ·subst c157
             have H1 : (laws_FnExactGiveRoom.j2 kj82 t354 (t374 != t320) t332 t355 t356) = some r := by rw [if_pos rfl] at H; exact H
             clear H
             have H := H1
             clear H1
             have H' := aM H
             clear H
             have hnb158 := NB375_301.out
             have hnc158 := NB301_375.out
             have hnb159 := NB375_302.out
             have hnc159 := NB302_375.out
             have hnb160 := NB375_321.out
             have hnc160 := NB321_375.out
             have hnb161 := NB375_329.out
             have hnc161 := NB329_375.out
             have hnb162 := NB375_340.out
             have hnc162 := NB340_375.out
             have hcz163_0 : w150.cell? ⟨gb375, 0, none⟩ = some (.int .i64 0) := yc BK375.out 0
             have hcz163_1 : w150.cell? ⟨gb375, 1, none⟩ = some (.slice none 0 0) := yc BK375.out 1
             have hcz163_2 : w150.cell? ⟨gb375, 2, none⟩ = some (.slice none 0 0) := yc BK375.out 2
             have hfz163_0 := yZ BK375.out 0
             have hfz163_1 := yZ BK375.out 1
             have hfz163_2 := yZ BK375.out 2
             have hnb164 := NB321_301.out
             have hnc164 := NB301_321.out
             have hnb165 := NB321_302.out
             have hnc165 := NB302_321.out
             have hnb166 := NB321_329.out
             have hnc166 := NB329_321.out
             have hnb167 := NB321_340.out
             have hnc167 := NB340_321.out
             have hcz168_0 : w150.cell? ⟨gb321, 0, none⟩ = some (.int .i64 t313) := yc BK321.out 0
             have hcz168_1 : w150.cell? ⟨gb321, 1, none⟩ = some (.slice Ao31 t314.length co31) := yc BK321.out 1
             have hcz168_2 : w150.cell? ⟨gb321, 2, none⟩ = some (.slice Ao33 t317.length co33) := yc BK321.out 2
             have hfz168_0 := yZ BK321.out 0
             have hfz168_1 := yZ BK321.out 1
             have hfz168_2 := yZ BK321.out 2
             go_wp2_with (first | ((with_reducible refine gate_callee (f := 13) rfl ?_); refine goesL_ (some 89) rfl rfl Try.func13 (by kernel_rfl) rfl #[.agg #[.int .i64 t367, .slice Ao152 t368.length co152, .slice Ao154 t371.length co154], .agg #[.int .i64 t313, .slice Ao31 t314.length co31, .slice Ao33 t317.length co33]] rfl (by (try simp only [List.map_toArray, List.map_cons, List.map_nil]); first | done | rfl | (simp only [List.length_drop, List.length_take]; rfl)) ?_; (with_reducible refine (laws_eqFree.calls kj82 t367 _ _ t368 _ _ t371 t313 _ _ t314 _ _ t317 true _ ?side1 ?side2 ?side3 ?side4 ?side5 ?side6 ?side7 ?side8 A156.out).mono ?_); (case side1 => exact rC (n := t368.length) (c := co152) ((x3 HO370.out BK375.out (by decide) (.int .i64 t367) (.slice Ao152 t368.length co152) (.slice Ao154 t371.length co154)))); (case side2 => exact (Kd.R_reads' HO370.out).2.1); (case side3 => exact rC (n := t371.length) (c := co154) ((x3 HO373.out BK375.out (by decide) (.int .i64 t367) (.slice Ao152 t368.length co152) (.slice Ao154 t371.length co154)))); (case side4 => exact (Kd.R_reads' HO373.out).2.1); (case side5 => exact rC (n := t314.length) (c := co31) ((x3 p0'.out BK375.out (by decide) (.int .i64 t367) (.slice Ao152 t368.length co152) (.slice Ao154 t371.length co154)))); (case side6 => exact (Kd.R_reads' p0'.out).2.1); (case side7 => exact rC (n := t317.length) (c := co33) ((x3 p1'.out BK375.out (by decide) (.int .i64 t367) (.slice Ao152 t368.length co152) (.slice Ao154 t371.length co154)))); (case side8 => exact (Kd.R_reads' p1'.out).2.1); rintro e w169 ⟨rfl, hb⟩; refine ⟨_, rfl, ?_⟩; replace p0' := aM (xB (xH ((x3 p0'.out BK375.out (by decide) (.int .i64 t367) (.slice Ao152 t368.length co152) (.slice Ao154 t371.length co154)))) hb); replace p1' := aM (xB (xH ((x3 p1'.out BK375.out (by decide) (.int .i64 t367) (.slice Ao152 t368.length co152) (.slice Ao154 t371.length co154)))) hb); replace p2' := aM (xB (xH ((x3 p2'.out BK375.out (by decide) (.int .i64 t367) (.slice Ao152 t368.length co152) (.slice Ao154 t371.length co154)))) hb); replace p3' := aM (xB (xH ((x3 p3'.out BK375.out (by decide) (.int .i64 t367) (.slice Ao152 t368.length co152) (.slice Ao154 t371.length co154)))) hb); replace p4' := aM (xB (xH ((x3 p4'.out BK375.out (by decide) (.int .i64 t367) (.slice Ao152 t368.length co152) (.slice Ao154 t371.length co154)))) hb); replace p5' := aM (xB (xH ((x3 p5'.out BK375.out (by decide) (.int .i64 t367) (.slice Ao152 t368.length co152) (.slice Ao154 t371.length co154)))) hb); replace HO361 := aM (xB (xH ((x3 HO361.out BK375.out (by decide) (.int .i64 t367) (.slice Ao152 t368.length co152) (.slice Ao154 t371.length co154)))) hb); replace HO364 := aM (xB (xH ((x3 HO364.out BK375.out (by decide) (.int .i64 t367) (.slice Ao152 t368.length co152) (.slice Ao154 t371.length co154)))) hb); replace HO370 := aM (xB (xH ((x3 HO370.out BK375.out (by decide) (.int .i64 t367) (.slice Ao152 t368.length co152) (.slice Ao154 t371.length co154)))) hb); replace HO373 := aM (xB (xH ((x3 HO373.out BK375.out (by decide) (.int .i64 t367) (.slice Ao152 t368.length co152) (.slice Ao154 t371.length co154)))) hb); replace BK301 := aM (yB (g := gb301) (o := .cells #[.int .i64 a0_0, .slice A0_1 l0_1.length c0_1, .slice A0_2 l0_2.length c0_2] 32 (0, 0)) (by (with_reducible repeat (first | refine yN ?_ _ | refine yD ?_ | refine yA ?_ _)); refine yF ?_ NB301_375.out _; (with_reducible repeat (first | refine yN ?_ _ | refine yD ?_ | refine yA ?_ _)); refine yF ?_ NB301_375.out _; (with_reducible repeat (first | refine yN ?_ _ | refine yD ?_ | refine yA ?_ _)); refine yF ?_ NB301_375.out _; (with_reducible repeat (first | refine yN ?_ _ | refine yD ?_ | refine yA ?_ _)); exact BK301.out) hb); replace BK302 := aM (yB (g := gb302) (o := .cells #[.int .i64 a1_0, .int .i64 a1_1] 47 (0, 0)) (by (with_reducible repeat (first | refine yN ?_ _ | refine yD ?_ | refine yA ?_ _)); refine yF ?_ NB302_375.out _; (with_reducible repeat (first | refine yN ?_ _ | refine yD ?_ | refine yA ?_ _)); refine yF ?_ NB302_375.out _; (with_reducible repeat (first | refine yN ?_ _ | refine yD ?_ | refine yA ?_ _)); refine yF ?_ NB302_375.out _; (with_reducible repeat (first | refine yN ?_ _ | refine yD ?_ | refine yA ?_ _)); exact BK302.out) hb); replace BK321 := aM (yB (g := gb321) (o := .cells #[.int .i64 t313, .slice Ao31 t314.length co31, .slice Ao33 t317.length co33] 24 (0, 0)) (by (with_reducible repeat (first | refine yN ?_ _ | refine yD ?_ | refine yA ?_ _)); refine yF ?_ NB321_375.out _; (with_reducible repeat (first | refine yN ?_ _ | refine yD ?_ | refine yA ?_ _)); refine yF ?_ NB321_375.out _; (with_reducible repeat (first | refine yN ?_ _ | refine yD ?_ | refine yA ?_ _)); refine yF ?_ NB321_375.out _; (with_reducible repeat (first | refine yN ?_ _ | refine yD ?_ | refine yA ?_ _)); exact BK321.out) hb); replace BK329 := aM (yB (g := gb329) (o := .cells #[.int .i64 t322, .slice Ao43 t351.length co43, .slice Ao44 t352.length co44] 24 (0, 0)) (by (with_reducible repeat (first | refine yN ?_ _ | refine yD ?_ | refine yA ?_ _)); refine yF ?_ NB329_375.out _; (with_reducible repeat (first | refine yN ?_ _ | refine yD ?_ | refine yA ?_ _)); refine yF ?_ NB329_375.out _; (with_reducible repeat (first | refine yN ?_ _ | refine yD ?_ | refine yA ?_ _)); refine yF ?_ NB329_375.out _; (with_reducible repeat (first | refine yN ?_ _ | refine yD ?_ | refine yA ?_ _)); exact BK329.out) hb); replace BK340 := aM (yB (g := gb340) (o := .cells #[.int .i64 t332, .slice Ao52 t333.length co52, .slice Ao54 t336.length co54] 24 (0, 0)) (by (with_reducible repeat (first | refine yN ?_ _ | refine yD ?_ | refine yA ?_ _)); refine yF ?_ NB340_375.out _; (with_reducible repeat (first | refine yN ?_ _ | refine yD ?_ | refine yA ?_ _)); refine yF ?_ NB340_375.out _; (with_reducible repeat (first | refine yN ?_ _ | refine yD ?_ | refine yA ?_ _)); refine yF ?_ NB340_375.out _; (with_reducible repeat (first | refine yN ?_ _ | refine yD ?_ | refine yA ?_ _)); exact BK340.out) hb); replace BK375 := aM (yB (g := gb375) (o := .cells #[.int .i64 t367, .slice Ao152 t368.length co152, .slice Ao154 t371.length co154] 24 (0, 0)) (by (with_reducible repeat (first | refine yN ?_ _ | refine yD ?_ | refine yA ?_ _)); refine yP (cs := #[.int .i64 t367, .slice Ao152 t368.length co152, .slice none 0 0]) ?_ 2 _ rfl; (with_reducible repeat (first | refine yN ?_ _ | refine yD ?_ | refine yA ?_ _)); refine yP (cs := #[.int .i64 t367, .slice none 0 0, .slice none 0 0]) ?_ 1 _ rfl; (with_reducible repeat (first | refine yN ?_ _ | refine yD ?_ | refine yA ?_ _)); refine yP (cs := #[.int .i64 0, .slice none 0 0, .slice none 0 0]) ?_ 0 _ rfl; (with_reducible repeat (first | refine yN ?_ _ | refine yD ?_ | refine yA ?_ _)); exact BK375.out) hb); replace HB := aM (zT (zH HB.out) hb); (try clear hb)))
             go_meet
             case rel => exact ⟨_, ((t374 != t320)), (by first | rfl | (simp; done) | (simp [*]; done)), H', ⟨by have := HJ15.out; have := HJ82.out; first | omega | exact Nat.le_refl _⟩, ⟨by (try simp only [hl330001_82]); (try simp only [hl330002_82]); (with_reducible repeat (first | apply xA | apply xN | apply xD)); exact xM p0'.out (fun _ hk => ⟨hk.2.2.2.2.1, ⟨hk.2.2.2.2.2.1, ⟨hk.2.2.2.2.2.2.1, ⟨hk.2.2.2.2.2.2.2.1, ⟨hk.2.2.2.2.2.2.2.2, ⟨hk.2.2.1, hk.2.2.2.1⟩⟩⟩⟩⟩⟩)⟩, ⟨by (try simp only [hl330001_82]); (try simp only [hl330002_82]); (with_reducible repeat (first | apply xA | apply xN | apply xD)); exact xM p1'.out (fun _ hk => ⟨hk.2.2.2.2.1, ⟨hk.2.2.2.2.2.1, ⟨hk.2.2.2.2.2.2.1, ⟨hk.2.2.2.2.2.2.2.1, ⟨hk.2.2.2.2.2.2.2.2, ⟨hk.2.2.1, hk.2.2.2.1⟩⟩⟩⟩⟩⟩)⟩, ⟨by (try simp only [hl330001_82]); (try simp only [hl330002_82]); (with_reducible repeat (first | apply xA | apply xN | apply xD)); exact xM p2'.out (fun _ hk => ⟨hk.2.2.2.2.1, ⟨hk.2.2.2.2.2.1, ⟨hk.2.2.2.2.2.2.1, ⟨hk.2.2.2.2.2.2.2.1, ⟨hk.2.2.2.2.2.2.2.2, ⟨hk.2.2.1, hk.2.2.2.1⟩⟩⟩⟩⟩⟩)⟩, ⟨by (try simp only [hl330001_82]); (try simp only [hl330002_82]); (with_reducible repeat (first | apply xA | apply xN | apply xD)); exact xM p3'.out (fun _ hk => ⟨hk.2.2.2.2.1, ⟨hk.2.2.2.2.2.1, ⟨hk.2.2.2.2.2.2.1, ⟨hk.2.2.2.2.2.2.2.1, ⟨hk.2.2.2.2.2.2.2.2, ⟨hk.2.2.1, hk.2.2.2.1⟩⟩⟩⟩⟩⟩)⟩, ⟨by (try simp only [hl330001_82]); (try simp only [hl330002_82]); (with_reducible repeat (first | apply xA | apply xN | apply xD)); exact xM p4'.out (fun _ hk => ⟨hk.2.2.2.2.1, ⟨hk.2.2.2.2.2.1, ⟨hk.2.2.2.2.2.2.1, ⟨hk.2.2.2.2.2.2.2.1, ⟨hk.2.2.2.2.2.2.2.2, ⟨hk.2.2.1, hk.2.2.2.1⟩⟩⟩⟩⟩⟩)⟩, ⟨by (try simp only [hl330001_82]); (try simp only [hl330002_82]); (with_reducible repeat (first | apply xA | apply xN | apply xD)); exact xM p5'.out (fun _ hk => ⟨hk.2.2.2.2.1, ⟨hk.2.2.2.2.2.1, ⟨hk.2.2.2.2.2.2.1, ⟨hk.2.2.2.2.2.2.2.1, ⟨hk.2.2.2.2.2.2.2.2, ⟨hk.2.2.1, hk.2.2.2.1⟩⟩⟩⟩⟩⟩)⟩, ⟨by (try simp only [hl330001_82]); (try simp only [hl330002_82]); (with_reducible repeat (first | apply xA | apply xN | apply xD)); exact xM HO370.out (fun _ hk => ⟨hk.2.2.2.1, ⟨hk.2.2.2.2.1, ⟨hk.2.2.2.2.2.1, ⟨hk.2.2.2.2.2.2.1, ⟨hk.2.2.2.2.2.2.2.1, ⟨hk.2.2.2.2.2.2.2.2, hk.2.2.1⟩⟩⟩⟩⟩⟩)⟩, ⟨by (try simp only [hl330001_82]); (try simp only [hl330002_82]); (with_reducible repeat (first | apply xA | apply xN | apply xD)); exact xM HO373.out (fun _ hk => ⟨hk.2.2.2.1, ⟨hk.2.2.2.2.1, ⟨hk.2.2.2.2.2.1, ⟨hk.2.2.2.2.2.2.1, ⟨hk.2.2.2.2.2.2.2.1, ⟨hk.2.2.2.2.2.2.2.2, hk.2.2.1⟩⟩⟩⟩⟩⟩)⟩, ⟨by (try simp only [hl330001_82]); (try simp only [hl330002_82]); (with_reducible repeat (first | refine yN ?_ _ | refine yD ?_ | refine yA ?_ _)); exact BK301.out⟩, ⟨by (try simp only [hl330001_82]); (try simp only [hl330002_82]); (with_reducible repeat (first | refine yN ?_ _ | refine yD ?_ | refine yA ?_ _)); exact BK302.out⟩, ⟨by (try simp only [hl330001_82]); (try simp only [hl330002_82]); (with_reducible repeat (first | refine yN ?_ _ | refine yD ?_ | refine yA ?_ _)); exact BK321.out⟩, ⟨by (try simp only [hl330001_82]); (try simp only [hl330002_82]); (with_reducible repeat (first | refine yN ?_ _ | refine yD ?_ | refine yA ?_ _)); exact BK329.out⟩, ⟨by (try simp only [hl330001_82]); (try simp only [hl330002_82]); (with_reducible repeat (first | refine yN ?_ _ | refine yD ?_ | refine yA ?_ _)); exact BK340.out⟩, ⟨by (try simp only [hl330001_82]); (try simp only [hl330002_82]); (with_reducible repeat (first | refine yN ?_ _ | refine yD ?_ | refine yA ?_ _)); exact BK375.out⟩, ⟨zH HB.out⟩⟩
            ·replace c157 := Bool.eq_false_iff.mpr c157
             subst c157
             have H1 : (laws_FnExactGiveRoom.j2 kj82 t354 true t332 t355 t356) = some r := by rw [if_neg (show ¬ (false = true) by decide)] at H; exact H
             clear H
             have H := H1
             clear H1
             have H' := aM H
             clear H
             have hnb170 := NB375_301.out
             have hnc170 := NB301_375.out
             have hnb171 := NB375_302.out
             have hnc171 := NB302_375.out
             have hnb172 := NB375_321.out
             have hnc172 := NB321_375.out
             have hnb173 := NB375_329.out
             have hnc173 := NB329_375.out
             have hnb174 := NB375_340.out
             have hnc174 := NB340_375.out
             have hcz175_0 : w150.cell? ⟨gb375, 0, none⟩ = some (.int .i64 0) := yc BK375.out 0
             have hcz175_1 : w150.cell? ⟨gb375, 1, none⟩ = some (.slice none 0 0) := yc BK375.out 1
             have hcz175_2 : w150.cell? ⟨gb375, 2, none⟩ = some (.slice none 0 0) := yc BK375.out 2
             have hfz175_0 := yZ BK375.out 0
             have hfz175_1 := yZ BK375.out 1
             have hfz175_2 := yZ BK375.out 2
             have hnb176 := NB321_301.out
             have hnc176 := NB301_321.out
             have hnb177 := NB321_302.out
             have hnc177 := NB302_321.out
             have hnb178 := NB321_329.out
             have hnc178 := NB329_321.out
             have hnb179 := NB321_340.out
             have hnc179 := NB340_321.out
             have hcz180_0 : w150.cell? ⟨gb321, 0, none⟩ = some (.int .i64 t313) := yc BK321.out 0
             have hcz180_1 : w150.cell? ⟨gb321, 1, none⟩ = some (.slice Ao31 t314.length co31) := yc BK321.out 1
             have hcz180_2 : w150.cell? ⟨gb321, 2, none⟩ = some (.slice Ao33 t317.length co33) := yc BK321.out 2
             have hfz180_0 := yZ BK321.out 0
             have hfz180_1 := yZ BK321.out 1
             have hfz180_2 := yZ BK321.out 2
             go_wp2_with (first | ((with_reducible refine gate_callee (f := 13) rfl ?_); refine goesL_ (some 89) rfl rfl Try.func13 (by kernel_rfl) rfl #[.agg #[.int .i64 t367, .slice Ao152 t368.length co152, .slice Ao154 t371.length co154], .agg #[.int .i64 t313, .slice Ao31 t314.length co31, .slice Ao33 t317.length co33]] rfl (by (try simp only [List.map_toArray, List.map_cons, List.map_nil]); first | done | rfl | (simp only [List.length_drop, List.length_take]; rfl)) ?_; (with_reducible refine (laws_eqFree.calls kj82 t367 _ _ t368 _ _ t371 t313 _ _ t314 _ _ t317 false _ ?side1 ?side2 ?side3 ?side4 ?side5 ?side6 ?side7 ?side8 A156.out).mono ?_); (case side1 => exact rC (n := t368.length) (c := co152) ((x3 HO370.out BK375.out (by decide) (.int .i64 t367) (.slice Ao152 t368.length co152) (.slice Ao154 t371.length co154)))); (case side2 => exact (Kd.R_reads' HO370.out).2.1); (case side3 => exact rC (n := t371.length) (c := co154) ((x3 HO373.out BK375.out (by decide) (.int .i64 t367) (.slice Ao152 t368.length co152) (.slice Ao154 t371.length co154)))); (case side4 => exact (Kd.R_reads' HO373.out).2.1); (case side5 => exact rC (n := t314.length) (c := co31) ((x3 p0'.out BK375.out (by decide) (.int .i64 t367) (.slice Ao152 t368.length co152) (.slice Ao154 t371.length co154)))); (case side6 => exact (Kd.R_reads' p0'.out).2.1); (case side7 => exact rC (n := t317.length) (c := co33) ((x3 p1'.out BK375.out (by decide) (.int .i64 t367) (.slice Ao152 t368.length co152) (.slice Ao154 t371.length co154)))); (case side8 => exact (Kd.R_reads' p1'.out).2.1); rintro e w181 ⟨rfl, hb⟩; refine ⟨_, rfl, ?_⟩; replace p0' := aM (xB (xH ((x3 p0'.out BK375.out (by decide) (.int .i64 t367) (.slice Ao152 t368.length co152) (.slice Ao154 t371.length co154)))) hb); replace p1' := aM (xB (xH ((x3 p1'.out BK375.out (by decide) (.int .i64 t367) (.slice Ao152 t368.length co152) (.slice Ao154 t371.length co154)))) hb); replace p2' := aM (xB (xH ((x3 p2'.out BK375.out (by decide) (.int .i64 t367) (.slice Ao152 t368.length co152) (.slice Ao154 t371.length co154)))) hb); replace p3' := aM (xB (xH ((x3 p3'.out BK375.out (by decide) (.int .i64 t367) (.slice Ao152 t368.length co152) (.slice Ao154 t371.length co154)))) hb); replace p4' := aM (xB (xH ((x3 p4'.out BK375.out (by decide) (.int .i64 t367) (.slice Ao152 t368.length co152) (.slice Ao154 t371.length co154)))) hb); replace p5' := aM (xB (xH ((x3 p5'.out BK375.out (by decide) (.int .i64 t367) (.slice Ao152 t368.length co152) (.slice Ao154 t371.length co154)))) hb); replace HO361 := aM (xB (xH ((x3 HO361.out BK375.out (by decide) (.int .i64 t367) (.slice Ao152 t368.length co152) (.slice Ao154 t371.length co154)))) hb); replace HO364 := aM (xB (xH ((x3 HO364.out BK375.out (by decide) (.int .i64 t367) (.slice Ao152 t368.length co152) (.slice Ao154 t371.length co154)))) hb); replace HO370 := aM (xB (xH ((x3 HO370.out BK375.out (by decide) (.int .i64 t367) (.slice Ao152 t368.length co152) (.slice Ao154 t371.length co154)))) hb); replace HO373 := aM (xB (xH ((x3 HO373.out BK375.out (by decide) (.int .i64 t367) (.slice Ao152 t368.length co152) (.slice Ao154 t371.length co154)))) hb); replace BK301 := aM (yB (g := gb301) (o := .cells #[.int .i64 a0_0, .slice A0_1 l0_1.length c0_1, .slice A0_2 l0_2.length c0_2] 32 (0, 0)) (by (with_reducible repeat (first | refine yN ?_ _ | refine yD ?_ | refine yA ?_ _)); refine yF ?_ NB301_375.out _; (with_reducible repeat (first | refine yN ?_ _ | refine yD ?_ | refine yA ?_ _)); refine yF ?_ NB301_375.out _; (with_reducible repeat (first | refine yN ?_ _ | refine yD ?_ | refine yA ?_ _)); refine yF ?_ NB301_375.out _; (with_reducible repeat (first | refine yN ?_ _ | refine yD ?_ | refine yA ?_ _)); exact BK301.out) hb); replace BK302 := aM (yB (g := gb302) (o := .cells #[.int .i64 a1_0, .int .i64 a1_1] 47 (0, 0)) (by (with_reducible repeat (first | refine yN ?_ _ | refine yD ?_ | refine yA ?_ _)); refine yF ?_ NB302_375.out _; (with_reducible repeat (first | refine yN ?_ _ | refine yD ?_ | refine yA ?_ _)); refine yF ?_ NB302_375.out _; (with_reducible repeat (first | refine yN ?_ _ | refine yD ?_ | refine yA ?_ _)); refine yF ?_ NB302_375.out _; (with_reducible repeat (first | refine yN ?_ _ | refine yD ?_ | refine yA ?_ _)); exact BK302.out) hb); replace BK321 := aM (yB (g := gb321) (o := .cells #[.int .i64 t313, .slice Ao31 t314.length co31, .slice Ao33 t317.length co33] 24 (0, 0)) (by (with_reducible repeat (first | refine yN ?_ _ | refine yD ?_ | refine yA ?_ _)); refine yF ?_ NB321_375.out _; (with_reducible repeat (first | refine yN ?_ _ | refine yD ?_ | refine yA ?_ _)); refine yF ?_ NB321_375.out _; (with_reducible repeat (first | refine yN ?_ _ | refine yD ?_ | refine yA ?_ _)); refine yF ?_ NB321_375.out _; (with_reducible repeat (first | refine yN ?_ _ | refine yD ?_ | refine yA ?_ _)); exact BK321.out) hb); replace BK329 := aM (yB (g := gb329) (o := .cells #[.int .i64 t322, .slice Ao43 t351.length co43, .slice Ao44 t352.length co44] 24 (0, 0)) (by (with_reducible repeat (first | refine yN ?_ _ | refine yD ?_ | refine yA ?_ _)); refine yF ?_ NB329_375.out _; (with_reducible repeat (first | refine yN ?_ _ | refine yD ?_ | refine yA ?_ _)); refine yF ?_ NB329_375.out _; (with_reducible repeat (first | refine yN ?_ _ | refine yD ?_ | refine yA ?_ _)); refine yF ?_ NB329_375.out _; (with_reducible repeat (first | refine yN ?_ _ | refine yD ?_ | refine yA ?_ _)); exact BK329.out) hb); replace BK340 := aM (yB (g := gb340) (o := .cells #[.int .i64 t332, .slice Ao52 t333.length co52, .slice Ao54 t336.length co54] 24 (0, 0)) (by (with_reducible repeat (first | refine yN ?_ _ | refine yD ?_ | refine yA ?_ _)); refine yF ?_ NB340_375.out _; (with_reducible repeat (first | refine yN ?_ _ | refine yD ?_ | refine yA ?_ _)); refine yF ?_ NB340_375.out _; (with_reducible repeat (first | refine yN ?_ _ | refine yD ?_ | refine yA ?_ _)); refine yF ?_ NB340_375.out _; (with_reducible repeat (first | refine yN ?_ _ | refine yD ?_ | refine yA ?_ _)); exact BK340.out) hb); replace BK375 := aM (yB (g := gb375) (o := .cells #[.int .i64 t367, .slice Ao152 t368.length co152, .slice Ao154 t371.length co154] 24 (0, 0)) (by (with_reducible repeat (first | refine yN ?_ _ | refine yD ?_ | refine yA ?_ _)); refine yP (cs := #[.int .i64 t367, .slice Ao152 t368.length co152, .slice none 0 0]) ?_ 2 _ rfl; (with_reducible repeat (first | refine yN ?_ _ | refine yD ?_ | refine yA ?_ _)); refine yP (cs := #[.int .i64 t367, .slice none 0 0, .slice none 0 0]) ?_ 1 _ rfl; (with_reducible repeat (first | refine yN ?_ _ | refine yD ?_ | refine yA ?_ _)); refine yP (cs := #[.int .i64 0, .slice none 0 0, .slice none 0 0]) ?_ 0 _ rfl; (with_reducible repeat (first | refine yN ?_ _ | refine yD ?_ | refine yA ?_ _)); exact BK375.out) hb); replace HB := aM (zT (zH HB.out) hb); (try clear hb)))
             go_meet
             case rel => exact ⟨_, (true), (by first | rfl | (simp; done) | (simp [*]; done)), H', ⟨by have := HJ15.out; have := HJ82.out; first | omega | exact Nat.le_refl _⟩, ⟨by (try simp only [hl330001_82]); (try simp only [hl330002_82]); (with_reducible repeat (first | apply xA | apply xN | apply xD)); exact xM p0'.out (fun _ hk => ⟨hk.2.2.2.2.1, ⟨hk.2.2.2.2.2.1, ⟨hk.2.2.2.2.2.2.1, ⟨hk.2.2.2.2.2.2.2.1, ⟨hk.2.2.2.2.2.2.2.2, ⟨hk.2.2.1, hk.2.2.2.1⟩⟩⟩⟩⟩⟩)⟩, ⟨by (try simp only [hl330001_82]); (try simp only [hl330002_82]); (with_reducible repeat (first | apply xA | apply xN | apply xD)); exact xM p1'.out (fun _ hk => ⟨hk.2.2.2.2.1, ⟨hk.2.2.2.2.2.1, ⟨hk.2.2.2.2.2.2.1, ⟨hk.2.2.2.2.2.2.2.1, ⟨hk.2.2.2.2.2.2.2.2, ⟨hk.2.2.1, hk.2.2.2.1⟩⟩⟩⟩⟩⟩)⟩, ⟨by (try simp only [hl330001_82]); (try simp only [hl330002_82]); (with_reducible repeat (first | apply xA | apply xN | apply xD)); exact xM p2'.out (fun _ hk => ⟨hk.2.2.2.2.1, ⟨hk.2.2.2.2.2.1, ⟨hk.2.2.2.2.2.2.1, ⟨hk.2.2.2.2.2.2.2.1, ⟨hk.2.2.2.2.2.2.2.2, ⟨hk.2.2.1, hk.2.2.2.1⟩⟩⟩⟩⟩⟩)⟩, ⟨by (try simp only [hl330001_82]); (try simp only [hl330002_82]); (with_reducible repeat (first | apply xA | apply xN | apply xD)); exact xM p3'.out (fun _ hk => ⟨hk.2.2.2.2.1, ⟨hk.2.2.2.2.2.1, ⟨hk.2.2.2.2.2.2.1, ⟨hk.2.2.2.2.2.2.2.1, ⟨hk.2.2.2.2.2.2.2.2, ⟨hk.2.2.1, hk.2.2.2.1⟩⟩⟩⟩⟩⟩)⟩, ⟨by (try simp only [hl330001_82]); (try simp only [hl330002_82]); (with_reducible repeat (first | apply xA | apply xN | apply xD)); exact xM p4'.out (fun _ hk => ⟨hk.2.2.2.2.1, ⟨hk.2.2.2.2.2.1, ⟨hk.2.2.2.2.2.2.1, ⟨hk.2.2.2.2.2.2.2.1, ⟨hk.2.2.2.2.2.2.2.2, ⟨hk.2.2.1, hk.2.2.2.1⟩⟩⟩⟩⟩⟩)⟩, ⟨by (try simp only [hl330001_82]); (try simp only [hl330002_82]); (with_reducible repeat (first | apply xA | apply xN | apply xD)); exact xM p5'.out (fun _ hk => ⟨hk.2.2.2.2.1, ⟨hk.2.2.2.2.2.1, ⟨hk.2.2.2.2.2.2.1, ⟨hk.2.2.2.2.2.2.2.1, ⟨hk.2.2.2.2.2.2.2.2, ⟨hk.2.2.1, hk.2.2.2.1⟩⟩⟩⟩⟩⟩)⟩, ⟨by (try simp only [hl330001_82]); (try simp only [hl330002_82]); (with_reducible repeat (first | apply xA | apply xN | apply xD)); exact xM HO370.out (fun _ hk => ⟨hk.2.2.2.1, ⟨hk.2.2.2.2.1, ⟨hk.2.2.2.2.2.1, ⟨hk.2.2.2.2.2.2.1, ⟨hk.2.2.2.2.2.2.2.1, ⟨hk.2.2.2.2.2.2.2.2, hk.2.2.1⟩⟩⟩⟩⟩⟩)⟩, ⟨by (try simp only [hl330001_82]); (try simp only [hl330002_82]); (with_reducible repeat (first | apply xA | apply xN | apply xD)); exact xM HO373.out (fun _ hk => ⟨hk.2.2.2.1, ⟨hk.2.2.2.2.1, ⟨hk.2.2.2.2.2.1, ⟨hk.2.2.2.2.2.2.1, ⟨hk.2.2.2.2.2.2.2.1, ⟨hk.2.2.2.2.2.2.2.2, hk.2.2.1⟩⟩⟩⟩⟩⟩)⟩, ⟨by (try simp only [hl330001_82]); (try simp only [hl330002_82]); (with_reducible repeat (first | refine yN ?_ _ | refine yD ?_ | refine yA ?_ _)); exact BK301.out⟩, ⟨by (try simp only [hl330001_82]); (try simp only [hl330002_82]); (with_reducible repeat (first | refine yN ?_ _ | refine yD ?_ | refine yA ?_ _)); exact BK302.out⟩, ⟨by (try simp only [hl330001_82]); (try simp only [hl330002_82]); (with_reducible repeat (first | refine yN ?_ _ | refine yD ?_ | refine yA ?_ _)); exact BK321.out⟩, ⟨by (try simp only [hl330001_82]); (try simp only [hl330002_82]); (with_reducible repeat (first | refine yN ?_ _ | refine yD ?_ | refine yA ?_ _)); exact BK329.out⟩, ⟨by (try simp only [hl330001_82]); (try simp only [hl330002_82]); (with_reducible repeat (first | refine yN ?_ _ | refine yD ?_ | refine yA ?_ _)); exact BK340.out⟩, ⟨by (try simp only [hl330001_82]); (try simp only [hl330002_82]); (with_reducible repeat (first | refine yN ?_ _ | refine yD ?_ | refine yA ?_ _)); exact BK375.out⟩, ⟨zH HB.out⟩⟩
           case rest =>
            clear HC134
            (try clear c1); (try clear p2); (try clear c3); (try clear c13); (try clear c15); (try clear c16); (try clear c17); (try clear c18); (try clear c30); (try clear c31); (try clear c157); (try clear c158); (try clear c159); (try clear c160); (try clear c161); (try clear c162); (try clear c164); (try clear c165); (try clear c166); (try clear c167); (try clear c170); (try clear c171); (try clear c172); (try clear c173); (try clear c174); (try clear c176); (try clear c177); (try clear c178); (try clear c179); (try clear hcz163_0); (try clear hcz163_1); (try clear hcz163_2); (try clear hcz168_0); (try clear hcz168_1); (try clear hcz168_2); (try clear hcz175_0); (try clear hcz175_1); (try clear hcz175_2); (try clear hcz180_0); (try clear hcz180_1); (try clear hcz180_2); (try clear hfz163_0); (try clear hfz163_1); (try clear hfz163_2); (try clear hfz168_0); (try clear hfz168_1); (try clear hfz168_2); (try clear hfz175_0); (try clear hfz175_1); (try clear hfz175_2); (try clear hfz180_0); (try clear hfz180_1); (try clear hfz180_2)
            obtain ⟨kq, x95_133, rfl, HA, HJ133, p0', p1', p2', p3', p4', p5', p6', p7', BK301, BK302, BK321, BK329, BK340, BK375, HB⟩ := hcut
            have hl341001_133 := (Kd.R_reads' p4'.out).1
            rw [hl341001_133] at p4'
            (try simp only [hl341001_133])
            (try simp only [hl341001_133] at BK301)
            (try simp only [hl341001_133] at BK302)
            (try simp only [hl341001_133] at BK321)
            (try simp only [hl341001_133] at BK329)
            (try simp only [hl341001_133] at BK340)
            (try simp only [hl341001_133] at BK375)
            (try simp only [hl341001_133] at p0')
            (try simp only [hl341001_133] at p1')
            (try simp only [hl341001_133] at p2')
            (try simp only [hl341001_133] at p3')
            (try simp only [hl341001_133] at p5')
            (try simp only [hl341001_133] at p6')
            (try simp only [hl341001_133] at p7')
            have hl341002_133 := (Kd.R_reads' p5'.out).1
            rw [hl341002_133] at p5'
            (try simp only [hl341002_133])
            (try simp only [hl341002_133] at BK301)
            (try simp only [hl341002_133] at BK302)
            (try simp only [hl341002_133] at BK321)
            (try simp only [hl341002_133] at BK329)
            (try simp only [hl341002_133] at BK340)
            (try simp only [hl341002_133] at BK375)
            (try simp only [hl341002_133] at p0')
            (try simp only [hl341002_133] at p1')
            (try simp only [hl341002_133] at p2')
            (try simp only [hl341002_133] at p3')
            (try simp only [hl341002_133] at p4')
            (try simp only [hl341002_133] at p6')
            (try simp only [hl341002_133] at p7')
            cases kq with
            | zero => exact absurd HA.out (fun h_ => by change none = some _ at h_; cases h_)
            | succ kj133 =>
             have H := HA.out
             clear HA
             simp only [laws_FnExactGiveRoom.j2] at H
             by_cases c182 : x95_133 = true
             ·subst c182
              have H1 : (some false) = some r := by rw [if_pos rfl] at H; exact H
              clear H
              have H := H1
              clear H1
              exact absurd (H.trans (congrArg some HR_.out)) (by decide)
             ·replace c182 := Bool.eq_false_iff.mpr c182
              subst c182
              have H1 : ((laws_heldFree.f kj133 t332 t355 t356 1).bind fun t377 => (if t377 < 0 then (some false) else (if t377 = t354 then (some true) else (some false)))) = some r := by rw [if_neg (show ¬ (false = true) by decide)] at H; exact H
              clear H
              have H := H1
              clear H1
              replace H := Option.bind_eq_some_iff.mp H
              obtain ⟨t377, A1830, H⟩ := H
              replace H : (if t377 < 0 then (some false) else (if t377 = t354 then (some true) else (some false))) = some r := H
              have A183 := aM A1830
              clear A1830
              by_cases c184 : t377 < 0
              ·rw [if_pos c184] at H
               have c184b0 : decide (t377 < 0) = true := decide_eq_true c184
               clear c184
               obtain rfl := Option.some.inj H
               have hnb185 := NB340_301.out
               have hnc185 := NB301_340.out
               have hnb186 := NB340_302.out
               have hnc186 := NB302_340.out
               have hnb187 := NB340_321.out
               have hnc187 := NB321_340.out
               have hnb188 := NB340_329.out
               have hnc188 := NB329_340.out
               have hnb189 := NB340_375.out
               have hnc189 := NB375_340.out
               have hcz190_0 : wc.cell? ⟨gb340, 0, none⟩ = some (.int .i64 t332) := yc BK340.out 0
               have hcz190_1 : wc.cell? ⟨gb340, 1, none⟩ = some (.slice Ao52 t355.length co52) := yc BK340.out 1
               have hcz190_2 : wc.cell? ⟨gb340, 2, none⟩ = some (.slice Ao54 t356.length co54) := yc BK340.out 2
               have hfz190_0 := yZ BK340.out 0
               have hfz190_1 := yZ BK340.out 1
               have hfz190_2 := yZ BK340.out 2
               go_wp2_with (first | ((with_reducible refine gate_callee (f := 15) rfl ?_); refine goesL_ (some 98) rfl rfl Try.func15 (by kernel_rfl) rfl #[.agg #[.int .i64 t332, .slice Ao52 t355.length co52, .slice Ao54 t356.length co54], .int .i64 1] rfl (by (try simp only [List.map_toArray, List.map_cons, List.map_nil]); first | done | rfl | (simp only [List.length_drop, List.length_take]; rfl)) ?_; (with_reducible refine (laws_heldFree.calls kj133 t332 _ _ t355 _ _ t356 1 t377 _ ?side1 ?side2 ?side3 ?side4 A183.out).mono ?_); (case side1 => repeat (first | exact (Kd.R_reads' p4'.out).2.2 | (with_reducible refine cA ?_ _) | (with_reducible refine cN ?_ _) | (with_reducible refine cD ?_))); (case side2 => exact (Kd.R_reads' p4'.out).2.1); (case side3 => repeat (first | exact (Kd.R_reads' p5'.out).2.2 | (with_reducible refine cA ?_ _) | (with_reducible refine cN ?_ _) | (with_reducible refine cD ?_))); (case side4 => exact (Kd.R_reads' p5'.out).2.1); rintro e w191 ⟨rfl, hb⟩; refine ⟨_, rfl, ?_⟩; replace p0' := xK p0'.out hb; replace p1' := xK p1'.out hb; replace p2' := xK p2'.out hb; replace p3' := xK p3'.out hb; replace p4' := xK p4'.out hb; replace p5' := xK p5'.out hb; replace p6' := xK p6'.out hb; replace p7' := xK p7'.out hb; replace BK301 := yK BK301.out hb; replace BK302 := yK BK302.out hb; replace BK321 := yK BK321.out hb; replace BK329 := yK BK329.out hb; replace BK340 := yK BK340.out hb; replace BK375 := yK BK375.out hb; replace HB := aM (zT (zH HB.out) hb); (try clear hb)))
               go_ret
               exact ⟨by first | rfl | (simp [errW_none, errW_some] <;> rfl) | (simp [*, errW_none, errW_some] <;> rfl), zH HB.out⟩
              ·rw [if_neg c184] at H
               have c184b0 : decide (t377 < 0) = false := decide_eq_false c184
               clear c184
               by_cases c192 : t377 = t354
               ·rw [if_pos c192] at H
                have c192b0 : (t377 == t354) = true := beq_iff_eq.mpr c192
                have c192b1 : (t377 != t354) = false := bne_eq_false_iff_eq.mpr c192
                clear c192
                obtain rfl := Option.some.inj H
                have hnb193 := NB340_301.out
                have hnc193 := NB301_340.out
                have hnb194 := NB340_302.out
                have hnc194 := NB302_340.out
                have hnb195 := NB340_321.out
                have hnc195 := NB321_340.out
                have hnb196 := NB340_329.out
                have hnc196 := NB329_340.out
                have hnb197 := NB340_375.out
                have hnc197 := NB375_340.out
                have hcz198_0 : wc.cell? ⟨gb340, 0, none⟩ = some (.int .i64 t332) := yc BK340.out 0
                have hcz198_1 : wc.cell? ⟨gb340, 1, none⟩ = some (.slice Ao52 t355.length co52) := yc BK340.out 1
                have hcz198_2 : wc.cell? ⟨gb340, 2, none⟩ = some (.slice Ao54 t356.length co54) := yc BK340.out 2
                have hfz198_0 := yZ BK340.out 0
                have hfz198_1 := yZ BK340.out 1
                have hfz198_2 := yZ BK340.out 2
                go_wp2_with (first | ((with_reducible refine gate_callee (f := 15) rfl ?_); refine goesL_ (some 98) rfl rfl Try.func15 (by kernel_rfl) rfl #[.agg #[.int .i64 t332, .slice Ao52 t355.length co52, .slice Ao54 t356.length co54], .int .i64 1] rfl (by (try simp only [List.map_toArray, List.map_cons, List.map_nil]); first | done | rfl | (simp only [List.length_drop, List.length_take]; rfl)) ?_; (with_reducible refine (laws_heldFree.calls kj133 t332 _ _ t355 _ _ t356 1 t377 _ ?side1 ?side2 ?side3 ?side4 A183.out).mono ?_); (case side1 => repeat (first | exact (Kd.R_reads' p4'.out).2.2 | (with_reducible refine cA ?_ _) | (with_reducible refine cN ?_ _) | (with_reducible refine cD ?_))); (case side2 => exact (Kd.R_reads' p4'.out).2.1); (case side3 => repeat (first | exact (Kd.R_reads' p5'.out).2.2 | (with_reducible refine cA ?_ _) | (with_reducible refine cN ?_ _) | (with_reducible refine cD ?_))); (case side4 => exact (Kd.R_reads' p5'.out).2.1); rintro e w199 ⟨rfl, hb⟩; refine ⟨_, rfl, ?_⟩; replace p0' := xK p0'.out hb; replace p1' := xK p1'.out hb; replace p2' := xK p2'.out hb; replace p3' := xK p3'.out hb; replace p4' := xK p4'.out hb; replace p5' := xK p5'.out hb; replace p6' := xK p6'.out hb; replace p7' := xK p7'.out hb; replace BK301 := yK BK301.out hb; replace BK302 := yK BK302.out hb; replace BK321 := yK BK321.out hb; replace BK329 := yK BK329.out hb; replace BK340 := yK BK340.out hb; replace BK375 := yK BK375.out hb; replace HB := aM (zT (zH HB.out) hb); (try clear hb)))
                go_ret
                exact ⟨by first | rfl | (simp [errW_none, errW_some] <;> rfl) | (simp [*, errW_none, errW_some] <;> rfl), zH HB.out⟩
               ·rw [if_neg c192] at H
                have c192b0 : (t377 == t354) = false := beq_eq_false_iff_ne.mpr c192
                have c192b1 : (t377 != t354) = true := bne_iff_ne.mpr c192
                obtain rfl := Option.some.inj H
                have hnb200 := NB340_301.out
                have hnc200 := NB301_340.out
                have hnb201 := NB340_302.out
                have hnc201 := NB302_340.out
                have hnb202 := NB340_321.out
                have hnc202 := NB321_340.out
                have hnb203 := NB340_329.out
                have hnc203 := NB329_340.out
                have hnb204 := NB340_375.out
                have hnc204 := NB375_340.out
                have hcz205_0 : wc.cell? ⟨gb340, 0, none⟩ = some (.int .i64 t332) := yc BK340.out 0
                have hcz205_1 : wc.cell? ⟨gb340, 1, none⟩ = some (.slice Ao52 t355.length co52) := yc BK340.out 1
                have hcz205_2 : wc.cell? ⟨gb340, 2, none⟩ = some (.slice Ao54 t356.length co54) := yc BK340.out 2
                have hfz205_0 := yZ BK340.out 0
                have hfz205_1 := yZ BK340.out 1
                have hfz205_2 := yZ BK340.out 2
                go_wp2_with (first | ((with_reducible refine gate_callee (f := 15) rfl ?_); refine goesL_ (some 98) rfl rfl Try.func15 (by kernel_rfl) rfl #[.agg #[.int .i64 t332, .slice Ao52 t355.length co52, .slice Ao54 t356.length co54], .int .i64 1] rfl (by (try simp only [List.map_toArray, List.map_cons, List.map_nil]); first | done | rfl | (simp only [List.length_drop, List.length_take]; rfl)) ?_; (with_reducible refine (laws_heldFree.calls kj133 t332 _ _ t355 _ _ t356 1 t377 _ ?side1 ?side2 ?side3 ?side4 A183.out).mono ?_); (case side1 => repeat (first | exact (Kd.R_reads' p4'.out).2.2 | (with_reducible refine cA ?_ _) | (with_reducible refine cN ?_ _) | (with_reducible refine cD ?_))); (case side2 => exact (Kd.R_reads' p4'.out).2.1); (case side3 => repeat (first | exact (Kd.R_reads' p5'.out).2.2 | (with_reducible refine cA ?_ _) | (with_reducible refine cN ?_ _) | (with_reducible refine cD ?_))); (case side4 => exact (Kd.R_reads' p5'.out).2.1); rintro e w206 ⟨rfl, hb⟩; refine ⟨_, rfl, ?_⟩; replace p0' := xK p0'.out hb; replace p1' := xK p1'.out hb; replace p2' := xK p2'.out hb; replace p3' := xK p3'.out hb; replace p4' := xK p4'.out hb; replace p5' := xK p5'.out hb; replace p6' := xK p6'.out hb; replace p7' := xK p7'.out hb; replace BK301 := yK BK301.out hb; replace BK302 := yK BK302.out hb; replace BK321 := yK BK321.out hb; replace BK329 := yK BK329.out hb; replace BK340 := yK BK340.out hb; replace BK375 := yK BK375.out hb; replace HB := aM (zT (zH HB.out) hb); (try clear hb)))
                go_ret
                exact ⟨by first | rfl | (simp [errW_none, errW_some] <;> rfl) | (simp [*, errW_none, errW_some] <;> rfl), zH HB.out⟩
          ·rw [if_neg c130] at H
           have c130b0 : (t357 == t354) = false := beq_eq_false_iff_ne.mpr c130
           have c130b1 : (t357 != t354) = true := bne_iff_ne.mpr c130
           obtain rfl := Option.some.inj H
           have hnb207 := NB340_301.out
           have hnc207 := NB301_340.out
           have hnb208 := NB340_302.out
           have hnc208 := NB302_340.out
           have hnb209 := NB340_321.out
           have hnc209 := NB321_340.out
           have hnb210 := NB340_329.out
           have hnc210 := NB329_340.out
           have hcz211_0 : wc.cell? ⟨gb340, 0, none⟩ = some (.int .i64 t332) := yc BK340.out 0
           have hcz211_1 : wc.cell? ⟨gb340, 1, none⟩ = some (.slice Ao52 t333.length co52) := yc BK340.out 1
           have hcz211_2 : wc.cell? ⟨gb340, 2, none⟩ = some (.slice Ao54 t336.length co54) := yc BK340.out 2
           have hfz211_0 := yZ BK340.out 0
           have hfz211_1 := yZ BK340.out 1
           have hfz211_2 := yZ BK340.out 2
           go_wp2_with (first | ((with_reducible refine gate_callee (f := 14) rfl ?_); refine goesL_ (some 70) rfl rfl Try.func14 (by kernel_rfl) rfl #[.agg #[.int .i64 t332, .slice Ao52 t333.length co52, .slice Ao54 t336.length co54], .int .i64 1] rfl (by (try simp only [List.map_toArray, List.map_cons, List.map_nil]); first | done | rfl | (simp only [List.length_drop, List.length_take]; rfl)) ?_; (with_reducible refine (laws_markFree.calls kj82 t332 (fun k_ => some k_ = oB Ao52 t333.length co52) (.slice Ao52 t333.length co52) t333 (fun k_ => some k_ = oB Ao54 t336.length co54) (.slice Ao54 t336.length co54) t336 1 t354 t355 t356 w _ ?side1 ?side2 ?side3 ?side4 ?side5 A119.out).mono ?_); (case side1 => repeat (first | (with_reducible first | exact HB.out | apply zA | apply zN | apply zD | refine zS ?_ GE301.out | refine zS ?_ GE302.out | refine zS ?_ GE321.out | refine zS ?_ GE329.out | refine zS ?_ GE340.out) | exact HB.out)); (case side2 => exact Kd.R_tight rfl p4'.out); (case side3 => exact fun k_ e_ => (p4'.out.1 k_ e_.symm).2.2.2.2); (case side4 => exact Kd.R_tight rfl p5'.out); (case side5 => exact fun k_ e_ => (p5'.out.1 k_ e_.symm).2.2.2.2); rintro e w212 ⟨rfl, hy0, hy1, hb, hkp⟩; refine ⟨_, rfl, ?_⟩; replace p0' := kB p0'.out hkp (fun k_ hk_ hs_ => Or.elim hs_ (fun e_ => (hk_.2.2.2.1) e_) (fun e_ => (hk_.2.2.2.2) e_)); replace p1' := kB p1'.out hkp (fun k_ hk_ hs_ => Or.elim hs_ (fun e_ => (hk_.2.2.2.1) e_) (fun e_ => (hk_.2.2.2.2) e_)); replace p2' := kB p2'.out hkp (fun k_ hk_ hs_ => Or.elim hs_ (fun e_ => (hk_.2.2.2.1) e_) (fun e_ => (hk_.2.2.2.2) e_)); replace p3' := kB p3'.out hkp (fun k_ hk_ hs_ => Or.elim hs_ (fun e_ => (hk_.2.2.2.1) e_) (fun e_ => (hk_.2.2.2.2) e_)); replace BK301 := aM (blk_kept BK301.out hkp (fun hs_ => Or.elim hs_ (fun e_ => (fun e_ => (Kd.R_ne p4'.out BK301.out (by decide)) e_) e_) (fun e_ => (fun e_ => (Kd.R_ne p5'.out BK301.out (by decide)) e_) e_))); replace BK302 := aM (blk_kept BK302.out hkp (fun hs_ => Or.elim hs_ (fun e_ => (fun e_ => (Kd.R_ne p4'.out BK302.out (by decide)) e_) e_) (fun e_ => (fun e_ => (Kd.R_ne p5'.out BK302.out (by decide)) e_) e_))); replace BK321 := aM (blk_kept BK321.out hkp (fun hs_ => Or.elim hs_ (fun e_ => (fun e_ => (Kd.R_ne p4'.out BK321.out (by decide)) e_) e_) (fun e_ => (fun e_ => (Kd.R_ne p5'.out BK321.out (by decide)) e_) e_))); replace BK329 := aM (blk_kept BK329.out hkp (fun hs_ => Or.elim hs_ (fun e_ => (fun e_ => (Kd.R_ne p4'.out BK329.out (by decide)) e_) e_) (fun e_ => (fun e_ => (Kd.R_ne p5'.out BK329.out (by decide)) e_) e_))); replace BK340 := aM (blk_kept BK340.out hkp (fun hs_ => Or.elim hs_ (fun e_ => (fun e_ => (Kd.R_ne p4'.out BK340.out (by decide)) e_) e_) (fun e_ => (fun e_ => (Kd.R_ne p5'.out BK340.out (by decide)) e_) e_))); replace p4' := aM (Kd.R_reok rfl hy0 (fun k_ e_ => p4'.out.1 k_ e_)); replace p5' := aM (Kd.R_reok rfl hy1 (fun k_ e_ => p5'.out.1 k_ e_)); replace HB := aM (hb); (try clear hb); (try clear hkp); (try clear hy0); (try clear hy1); have hcz213_0 : w212.cell? ⟨gb340, 0, none⟩ = some (.int .i64 t332) := yc BK340.out 0; have hcz213_1 : w212.cell? ⟨gb340, 1, none⟩ = some (.slice Ao52 t333.length co52) := yc BK340.out 1; have hcz213_2 : w212.cell? ⟨gb340, 2, none⟩ = some (.slice Ao54 t336.length co54) := yc BK340.out 2; have hfz213_0 := yZ BK340.out 0; have hfz213_1 := yZ BK340.out 1; have hfz213_2 := yZ BK340.out 2) | ((with_reducible refine gate_callee (f := 15) rfl ?_); refine goesL_ (some 73) rfl rfl Try.func15 (by kernel_rfl) rfl #[.agg #[.int .i64 t332, .slice Ao52 t355.length co52, .slice Ao54 t356.length co54], .int .i64 1] rfl (by (try simp only [List.map_toArray, List.map_cons, List.map_nil]); first | done | (rw [show t355.length = t333.length from (Kd.R_reads' p4'.out).1.symm, show t356.length = t336.length from (Kd.R_reads' p5'.out).1.symm] <;> rfl) | rfl | (simp only [List.length_drop, List.length_take]; rfl)) ?_; (with_reducible refine (laws_heldFree.calls kj82 t332 _ _ t355 _ _ t356 1 t357 _ ?side1 ?side2 ?side3 ?side4 A120.out).mono ?_); (case side1 => repeat (first | exact (Kd.R_reads' p4'.out).2.2 | (with_reducible refine cA ?_ _) | (with_reducible refine cN ?_ _) | (with_reducible refine cD ?_))); (case side2 => rw [show t355.length = t333.length from (Kd.R_reads' p4'.out).1.symm]; exact (Kd.R_reads' p4'.out).2.1); (case side3 => repeat (first | exact (Kd.R_reads' p5'.out).2.2 | (with_reducible refine cA ?_ _) | (with_reducible refine cN ?_ _) | (with_reducible refine cD ?_))); (case side4 => rw [show t356.length = t336.length from (Kd.R_reads' p5'.out).1.symm]; exact (Kd.R_reads' p5'.out).2.1); rintro e w214 ⟨rfl, hb⟩; refine ⟨_, rfl, ?_⟩; replace p0' := xK p0'.out hb; replace p1' := xK p1'.out hb; replace p2' := xK p2'.out hb; replace p3' := xK p3'.out hb; replace p4' := xK p4'.out hb; replace p5' := xK p5'.out hb; replace BK301 := yK BK301.out hb; replace BK302 := yK BK302.out hb; replace BK321 := yK BK321.out hb; replace BK329 := yK BK329.out hb; replace BK340 := yK BK340.out hb; replace HB := aM (zT (zH HB.out) hb); (try clear hb)))
           go_ret
           exact ⟨by first | rfl | (simp [errW_none, errW_some] <;> rfl) | (simp [*, errW_none, errW_some] <;> rfl), zH HB.out⟩
     ·replace c81 := Bool.eq_false_iff.mpr c81
      subst c81
      have H1 : (some false) = some r := by rw [if_neg (show ¬ (false = true) by decide)] at H; exact H
      clear H
      have H := H1
      clear H1
      exact absurd (H.trans (congrArg some HR_.out)) (by decide)
def okS47 (x : S47) : Prop := (Lit.int .i64 x.f0).wf = true ∧ (Lit.int .i64 x.f1).wf = true
/-- The one pure statement of laws_FnExactGiveRoom. -/
def laws_FnExactGiveRoom.PureG : Prop := ∀ (a0_0 : Int) (l0_1 : List (S47)) (l0_2 : List (S47)) (a1_0 : Int) (a1_1 : Int), (Lit.int .i64 a0_0).wf = true → (l0_1.length ≤ maxLen ∧ ∀ x_ ∈ l0_1, okS47 x_) → (l0_2.length ≤ maxLen ∧ ∀ x_ ∈ l0_2, okS47 x_) → (Lit.int .i64 a1_0).wf = true → (Lit.int .i64 a1_1).wf = true → ∃ k, laws_FnExactGiveRoom.f k a0_0 l0_1 l0_2 a1_0 a1_1 = some true

end Go.Proofs.Ytfhfaeeokibhaaa.PFnExactGiveRoom
