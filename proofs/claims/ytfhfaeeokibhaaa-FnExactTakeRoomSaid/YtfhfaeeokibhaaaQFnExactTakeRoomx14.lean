/- The walks of FnExactTakeRoom: Go's calls come to what the Lean functions beside them say; no condition. -/
import Derived.Test.YtfhfaeeokibhaaaQFnExactTakeRoomx0
import Derived.Test.YtfhfaeeokibhaaaQFnExactTakeRoomx2
import Derived.Test.YtfhfaeeokibhaaaQFnExactTakeRoomx3
import Derived.Test.YtfhfaeeokibhaaaQFnExactTakeRoomx7
import Derived.Test.YtfhfaeeokibhaaaQFnExactTakeRoomx13
namespace Go.Proofs.Ytfhfaeeokibhaaa.PFnExactTakeRoom
open Go.RowKit Go.Proofs.YtfhfaeeokibhaaaW.PrintWords Go.Proofs.YtfhfaeeokibhaaaW.PrintLast Go.Proofs.YtfhfaeeokibhaaaW.PrintMore
attribute [local go_sem] max2_int min2_int max_two min_two max_three min_three max_four min_four   -- for this text's walks alone
set_option linter.unusedVariables false
set_option linter.unusedSimpArgs false
set_option maxRecDepth 100000

/-! ### laws_FnExactTakeRoom: function 10 -/
mutual
def laws_FnExactTakeRoom.j0 : Nat → Int → Int → Int → Int → Bool → Int → Bool → Bool → Int → List (S47) → List (S47) → Int → List (S49) → List (S49) → Int → List (S49) → List (S49) → Int → List (S49) → List (S49) → Option (Bool)
 | 0, _, _, _, _, _, _, _, _, _, _, _, _, _, _, _, _, _, _, _, _ => none
 | k + 1, x1, x2, x3, x11, x12, x15, x16, x62, x355000, x355001, x355002, x373000, x373001, x373002, x381000, x381001, x381002, x391000, x391001, x391002 => if x62 = true then (some false) else ((laws_toFree.f k x355000 x355001 x355002).bind fun bt392 => ((laws_eqFree.f k x381000 x381001 x381002 bt392.1 bt392.2.1 bt392.2.2).bind fun t399 => (if t399 = true then ((laws_markFree.f k x381000 x381001 x381002 1).bind fun bt400 => (if bt400.1 < 0 then (laws_FnExactTakeRoom.j1 k x1 x2 x3 x11 x12 true x355000 x355001 x355002 x373000 x373001 x373002 x391000 x391001 x391002) else ((laws_eqFree.f k x391000 x391001 x391002 x373000 x373001 x373002).bind fun t403 => (if t403 = true then (if x15 = x11 then (laws_FnExactTakeRoom.j1 k x1 x2 x3 x11 x12 (x16 != x12) x355000 x355001 x355002 x373000 x373001 x373002 x391000 x391001 x391002) else (laws_FnExactTakeRoom.j1 k x1 x2 x3 x11 x12 true x355000 x355001 x355002 x373000 x373001 x373002 x391000 x391001 x391002)) else (laws_FnExactTakeRoom.j1 k x1 x2 x3 x11 x12 true x355000 x355001 x355002 x373000 x373001 x373002 x391000 x391001 x391002))))) else (some false))))
def laws_FnExactTakeRoom.j1 : Nat → Int → Int → Int → Int → Bool → Bool → Int → List (S47) → List (S47) → Int → List (S49) → List (S49) → Int → List (S49) → List (S49) → Option (Bool)
 | 0, _, _, _, _, _, _, _, _, _, _, _, _, _, _, _ => none
 | k + 1, x1, x2, x3, x11, x12, x88, x355000, x355001, x355002, x373000, x373001, x373002, x391000, x391001, x391002 => if x88 = true then (some false) else ((laws_markFree.f k x391000 x391001 x391002 1).bind fun bt404 => ((laws_heldFree.f k x391000 bt404.2.1 bt404.2.2 1).bind fun t407 => (if t407 < 0 then (some false) else (if t407 = bt404.1 then ((laws_toFree.f k x355000 x355001 x355002).bind fun bt408 => ((impl_TakeRoom.f k bt408.1 bt408.2.1 bt408.2.2 x1 x2 x3).bind fun bt415 => ((laws_eqFree.f k bt415.1 bt415.2.1 bt415.2.2.1 x373000 x373001 x373002).bind fun t425 => (if t425 = true then (if bt415.2.2.2.1 = x11 then (laws_FnExactTakeRoom.j2 k bt404.1 (bt415.2.2.2.2 != x12) x391000 bt404.2.1 bt404.2.2) else (laws_FnExactTakeRoom.j2 k bt404.1 true x391000 bt404.2.1 bt404.2.2)) else (laws_FnExactTakeRoom.j2 k bt404.1 true x391000 bt404.2.1 bt404.2.2))))) else (some false)))))
def laws_FnExactTakeRoom.j2 : Nat → Int → Bool → Int → List (S49) → List (S49) → Option (Bool)
 | 0, _, _, _, _, _ => none
 | k + 1, x18, x123, x391000, x391001, x391002 => if x123 = true then (some false) else ((laws_heldFree.f k x391000 x391001 x391002 1).bind fun t426 => (if t426 < 0 then (some false) else (if t426 = x18 then (some true) else (some false))))
end
def laws_FnExactTakeRoom.f (k : Nat) (a0_0 : Int) (l0_1 : List (S47)) (l0_2 : List (S47)) (a1 : Int) (a2 : Int) (a3 : Int) : Option (Bool) := (laws_szFree.f a0_0 l0_1 l0_2 1048576).bind fun t355 => (if t355 < 0 then (some true) else ((laws_toFree.f k a0_0 l0_1 l0_2).bind fun bt356 => ((spec_TakeRoom.f k bt356.1 bt356.2.1 bt356.2.2 a1 a2 a3).bind fun bt363 => ((laws_toFree.f k a0_0 l0_1 l0_2).bind fun bt373 => ((impl_TakeRoom.f k bt373.1 bt373.2.1 bt373.2.2 a1 a2 a3).bind fun bt381 => ((laws_eqFree.f k bt381.1 bt381.2.1 bt381.2.2.1 bt363.1 bt363.2.1 bt363.2.2.1).bind fun t391 => (if t391 = true then (if bt381.2.2.2.1 = bt363.2.2.2.1 then (laws_FnExactTakeRoom.j0 k a1 a2 a3 bt363.2.2.2.1 bt363.2.2.2.2 bt381.2.2.2.1 bt381.2.2.2.2 (bt381.2.2.2.2 != bt363.2.2.2.2) a0_0 l0_1 l0_2 bt363.1 bt363.2.1 bt363.2.2.1 bt373.1 bt373.2.1 bt373.2.2 bt381.1 bt381.2.1 bt381.2.2.1) else (laws_FnExactTakeRoom.j0 k a1 a2 a3 bt363.2.2.2.1 bt363.2.2.2.2 bt381.2.2.2.1 bt381.2.2.2.2 true a0_0 l0_1 l0_2 bt363.1 bt363.2.1 bt363.2.2.1 bt373.1 bt373.2.1 bt373.2.2 bt381.1 bt381.2.1 bt381.2.2.1)) else (laws_FnExactTakeRoom.j0 k a1 a2 a3 bt363.2.2.2.1 bt363.2.2.2.2 bt381.2.2.2.1 bt381.2.2.2.2 true a0_0 l0_1 l0_2 bt363.1 bt363.2.1 bt363.2.2.1 bt373.1 bt373.2.1 bt373.2.2 bt381.1 bt381.2.1 bt381.2.2.1))))))))
theorem laws_FnExactTakeRoom.mono_l : ∀ k, (∀ y0 y1 y2 y3 y4 y5 y6 y7 y8 y9 y10 y11 y12 y13 y14 y15 y16 y17 y18 y19, LeO (laws_FnExactTakeRoom.j0 k y0 y1 y2 y3 y4 y5 y6 y7 y8 y9 y10 y11 y12 y13 y14 y15 y16 y17 y18 y19) (laws_FnExactTakeRoom.j0 (k + 1) y0 y1 y2 y3 y4 y5 y6 y7 y8 y9 y10 y11 y12 y13 y14 y15 y16 y17 y18 y19)) ∧ (∀ y0 y1 y2 y3 y4 y5 y6 y7 y8 y9 y10 y11 y12 y13 y14, LeO (laws_FnExactTakeRoom.j1 k y0 y1 y2 y3 y4 y5 y6 y7 y8 y9 y10 y11 y12 y13 y14) (laws_FnExactTakeRoom.j1 (k + 1) y0 y1 y2 y3 y4 y5 y6 y7 y8 y9 y10 y11 y12 y13 y14)) ∧ (∀ y0 y1 y2 y3 y4, LeO (laws_FnExactTakeRoom.j2 k y0 y1 y2 y3 y4) (laws_FnExactTakeRoom.j2 (k + 1) y0 y1 y2 y3 y4))
 | 0 => ⟨fun _ _ _ _ _ _ _ _ _ _ _ _ _ _ _ _ _ _ _ _ r h => by simp [laws_FnExactTakeRoom.j0] at h, fun _ _ _ _ _ _ _ _ _ _ _ _ _ _ _ r h => by simp [laws_FnExactTakeRoom.j1] at h, fun _ _ _ _ _ r h => by simp [laws_FnExactTakeRoom.j2] at h⟩
 | k + 1 => by
  obtain ⟨ih0, ih1, ih2⟩ := laws_FnExactTakeRoom.mono_l k
  refine ⟨?_, ?_, ?_⟩
  ·intro y0 y1 y2 y3 y4 y5 y6 y7 y8 y9 y10 y11 y12 y13 y14 y15 y16 y17 y18 y19
   unfold laws_FnExactTakeRoom.j0
   repeat' first
   | (with_reducible exact ih0 _ _ _ _ _ _ _ _ _ _ _ _ _ _ _ _ _ _ _ _)
   | (with_reducible exact ih1 _ _ _ _ _ _ _ _ _ _ _ _ _ _ _)
   | (with_reducible exact ih2 _ _ _ _ _)
   | (with_reducible exact impl_TakeRoom.mono _ _ _ _ _ _ _)
   | (with_reducible exact laws_eqFree.mono _ _ _ _ _ _ _)
   | (with_reducible exact laws_heldFree.mono _ _ _ _ _)
   | (with_reducible exact laws_markFree.mono _ _ _ _ _)
   | (with_reducible exact laws_toFree.mono _ _ _ _)
   | (with_reducible exact spec_TakeRoom.mono _ _ _ _ _ _ _)
   | (with_reducible exact LeO.refl _)
   | (with_reducible exact LeO.none _)
   | (with_reducible refine LeO.ite ?_ ?_)
   | (with_reducible refine LeO.bind ?_ (fun _ => ?_))
   | exact ih0 _ _ _ _ _ _ _ _ _ _ _ _ _ _ _ _ _ _ _ _
   | exact ih1 _ _ _ _ _ _ _ _ _ _ _ _ _ _ _
   | exact ih2 _ _ _ _ _
   | exact impl_TakeRoom.mono _ _ _ _ _ _ _
   | exact laws_eqFree.mono _ _ _ _ _ _ _
   | exact laws_heldFree.mono _ _ _ _ _
   | exact laws_markFree.mono _ _ _ _ _
   | exact laws_toFree.mono _ _ _ _
   | exact spec_TakeRoom.mono _ _ _ _ _ _ _
   | exact LeO.none _
   | refine LeO.ite ?_ ?_
   | refine LeO.bind ?_ (fun _ => ?_)
  ·intro y0 y1 y2 y3 y4 y5 y6 y7 y8 y9 y10 y11 y12 y13 y14
   unfold laws_FnExactTakeRoom.j1
   repeat' first
   | (with_reducible exact ih0 _ _ _ _ _ _ _ _ _ _ _ _ _ _ _ _ _ _ _ _)
   | (with_reducible exact ih1 _ _ _ _ _ _ _ _ _ _ _ _ _ _ _)
   | (with_reducible exact ih2 _ _ _ _ _)
   | (with_reducible exact impl_TakeRoom.mono _ _ _ _ _ _ _)
   | (with_reducible exact laws_eqFree.mono _ _ _ _ _ _ _)
   | (with_reducible exact laws_heldFree.mono _ _ _ _ _)
   | (with_reducible exact laws_markFree.mono _ _ _ _ _)
   | (with_reducible exact laws_toFree.mono _ _ _ _)
   | (with_reducible exact spec_TakeRoom.mono _ _ _ _ _ _ _)
   | (with_reducible exact LeO.refl _)
   | (with_reducible exact LeO.none _)
   | (with_reducible refine LeO.ite ?_ ?_)
   | (with_reducible refine LeO.bind ?_ (fun _ => ?_))
   | exact ih0 _ _ _ _ _ _ _ _ _ _ _ _ _ _ _ _ _ _ _ _
   | exact ih1 _ _ _ _ _ _ _ _ _ _ _ _ _ _ _
   | exact ih2 _ _ _ _ _
   | exact impl_TakeRoom.mono _ _ _ _ _ _ _
   | exact laws_eqFree.mono _ _ _ _ _ _ _
   | exact laws_heldFree.mono _ _ _ _ _
   | exact laws_markFree.mono _ _ _ _ _
   | exact laws_toFree.mono _ _ _ _
   | exact spec_TakeRoom.mono _ _ _ _ _ _ _
   | exact LeO.none _
   | refine LeO.ite ?_ ?_
   | refine LeO.bind ?_ (fun _ => ?_)
  ·intro y0 y1 y2 y3 y4
   unfold laws_FnExactTakeRoom.j2
   repeat' first
   | (with_reducible exact ih0 _ _ _ _ _ _ _ _ _ _ _ _ _ _ _ _ _ _ _ _)
   | (with_reducible exact ih1 _ _ _ _ _ _ _ _ _ _ _ _ _ _ _)
   | (with_reducible exact ih2 _ _ _ _ _)
   | (with_reducible exact impl_TakeRoom.mono _ _ _ _ _ _ _)
   | (with_reducible exact laws_eqFree.mono _ _ _ _ _ _ _)
   | (with_reducible exact laws_heldFree.mono _ _ _ _ _)
   | (with_reducible exact laws_markFree.mono _ _ _ _ _)
   | (with_reducible exact laws_toFree.mono _ _ _ _)
   | (with_reducible exact spec_TakeRoom.mono _ _ _ _ _ _ _)
   | (with_reducible exact LeO.refl _)
   | (with_reducible exact LeO.none _)
   | (with_reducible refine LeO.ite ?_ ?_)
   | (with_reducible refine LeO.bind ?_ (fun _ => ?_))
   | exact ih0 _ _ _ _ _ _ _ _ _ _ _ _ _ _ _ _ _ _ _ _
   | exact ih1 _ _ _ _ _ _ _ _ _ _ _ _ _ _ _
   | exact ih2 _ _ _ _ _
   | exact impl_TakeRoom.mono _ _ _ _ _ _ _
   | exact laws_eqFree.mono _ _ _ _ _ _ _
   | exact laws_heldFree.mono _ _ _ _ _
   | exact laws_markFree.mono _ _ _ _ _
   | exact laws_toFree.mono _ _ _ _
   | exact spec_TakeRoom.mono _ _ _ _ _ _ _
   | exact LeO.none _
   | refine LeO.ite ?_ ?_
   | refine LeO.bind ?_ (fun _ => ?_)
theorem laws_FnExactTakeRoom.mono : ∀ a0 a1 a2 a3 a4 a5 k, LeO (laws_FnExactTakeRoom.f k a0 a1 a2 a3 a4 a5) (laws_FnExactTakeRoom.f (k + 1) a0 a1 a2 a3 a4 a5) := by
 intro a0 a1 a2 a3 a4 a5 k
 obtain ⟨ih0, ih1, ih2⟩ := laws_FnExactTakeRoom.mono_l k
 unfold laws_FnExactTakeRoom.f
 repeat' first
   | (with_reducible exact ih0 _ _ _ _ _ _ _ _ _ _ _ _ _ _ _ _ _ _ _ _)
   | (with_reducible exact ih1 _ _ _ _ _ _ _ _ _ _ _ _ _ _ _)
   | (with_reducible exact ih2 _ _ _ _ _)
   | (with_reducible exact impl_TakeRoom.mono _ _ _ _ _ _ _)
   | (with_reducible exact laws_eqFree.mono _ _ _ _ _ _ _)
   | (with_reducible exact laws_heldFree.mono _ _ _ _ _)
   | (with_reducible exact laws_markFree.mono _ _ _ _ _)
   | (with_reducible exact laws_toFree.mono _ _ _ _)
   | (with_reducible exact spec_TakeRoom.mono _ _ _ _ _ _ _)
   | (with_reducible exact LeO.refl _)
   | (with_reducible exact LeO.none _)
   | (with_reducible refine LeO.ite ?_ ?_)
   | (with_reducible refine LeO.bind ?_ (fun _ => ?_))
   | exact ih0 _ _ _ _ _ _ _ _ _ _ _ _ _ _ _ _ _ _ _ _
   | exact ih1 _ _ _ _ _ _ _ _ _ _ _ _ _ _ _
   | exact ih2 _ _ _ _ _
   | exact impl_TakeRoom.mono _ _ _ _ _ _ _
   | exact laws_eqFree.mono _ _ _ _ _ _ _
   | exact laws_heldFree.mono _ _ _ _ _
   | exact laws_markFree.mono _ _ _ _ _
   | exact laws_toFree.mono _ _ _ _
   | exact spec_TakeRoom.mono _ _ _ _ _ _ _
   | exact LeO.none _
   | refine LeO.ite ?_ ?_
   | refine LeO.bind ?_ (fun _ => ?_)
set_option maxHeartbeats 8000000 in
set_option maxRecDepth 100000 in
theorem laws_FnExactTakeRoom.calls (k : Nat) (a0_0 : Int) (A0_1 : Option Addr) (c0_1 : Nat) (l0_1 : List (S47)) (A0_2 : Option Addr) (c0_2 : Nat) (l0_2 : List (S47)) (a1 : Int) (a2 : Int) (a3 : Int) (r : Bool) (w : World) (hr0_1 : Kd.C k47 w A0_1 l0_1.length l0_1) (hc0_1 : l0_1.length ≤ c0_1) (hr0_2 : Kd.C k47 w A0_2 l0_2.length l0_2) (hc0_2 : l0_2.length ≤ c0_2) (h : laws_FnExactTakeRoom.f k a0_0 l0_1 l0_2 a1 a2 a3 = some r) (hr_ : r = true := by rfl) :
  Calls Try.prog 10 #[.agg #[.int .i64 a0_0, .slice A0_1 l0_1.length c0_1, .slice A0_2 l0_2.length c0_2], .int .i64 a1, .int .i64 a2, .int .i64 a3] w fun e w' => e = .returned (.bool r) ∧ Below w.heap.size w w' := by
 have HR_ := aM hr_
 clear hr_
 have hu32 := Try.underlying32
 have hu24 := Try.underlying24
 have HR0_1 := aM hr0_1
 have HC0_1 := aM hc0_1
 clear hr0_1 hc0_1
 have HR0_2 := aM hr0_2
 have HC0_2 := aM hc0_2
 clear hr0_2 hc0_2
 have HB := aM (Below.refl w.heap.size w)
 have H : ((laws_szFree.f a0_0 l0_1 l0_2 1048576).bind fun t355 => (if t355 < 0 then (some true) else ((laws_toFree.f k a0_0 l0_1 l0_2).bind fun bt356 => ((spec_TakeRoom.f k bt356.1 bt356.2.1 bt356.2.2 a1 a2 a3).bind fun bt363 => ((laws_toFree.f k a0_0 l0_1 l0_2).bind fun bt373 => ((impl_TakeRoom.f k bt373.1 bt373.2.1 bt373.2.2 a1 a2 a3).bind fun bt381 => ((laws_eqFree.f k bt381.1 bt381.2.1 bt381.2.2.1 bt363.1 bt363.2.1 bt363.2.2.1).bind fun t391 => (if t391 = true then (if bt381.2.2.2.1 = bt363.2.2.2.1 then (laws_FnExactTakeRoom.j0 k a1 a2 a3 bt363.2.2.2.1 bt363.2.2.2.2 bt381.2.2.2.1 bt381.2.2.2.2 (bt381.2.2.2.2 != bt363.2.2.2.2) a0_0 l0_1 l0_2 bt363.1 bt363.2.1 bt363.2.2.1 bt373.1 bt373.2.1 bt373.2.2 bt381.1 bt381.2.1 bt381.2.2.1) else (laws_FnExactTakeRoom.j0 k a1 a2 a3 bt363.2.2.2.1 bt363.2.2.2.2 bt381.2.2.2.1 bt381.2.2.2.2 true a0_0 l0_1 l0_2 bt363.1 bt363.2.1 bt363.2.2.1 bt373.1 bt373.2.1 bt373.2.2 bt381.1 bt381.2.1 bt381.2.2.1)) else (laws_FnExactTakeRoom.j0 k a1 a2 a3 bt363.2.2.2.1 bt363.2.2.2.2 bt381.2.2.2.1 bt381.2.2.2.2 true a0_0 l0_1 l0_2 bt363.1 bt363.2.1 bt363.2.2.1 bt373.1 bt373.2.1 bt373.2.2 bt381.1 bt381.2.1 bt381.2.2.1))))))))) = some r := h
 clear h
 replace H := Option.bind_eq_some_iff.mp H
 obtain ⟨t355, A50, H⟩ := H
 replace H : (if t355 < 0 then (some true) else ((laws_toFree.f k a0_0 l0_1 l0_2).bind fun bt356 => ((spec_TakeRoom.f k bt356.1 bt356.2.1 bt356.2.2 a1 a2 a3).bind fun bt363 => ((laws_toFree.f k a0_0 l0_1 l0_2).bind fun bt373 => ((impl_TakeRoom.f k bt373.1 bt373.2.1 bt373.2.2 a1 a2 a3).bind fun bt381 => ((laws_eqFree.f k bt381.1 bt381.2.1 bt381.2.2.1 bt363.1 bt363.2.1 bt363.2.2.1).bind fun t391 => (if t391 = true then (if bt381.2.2.2.1 = bt363.2.2.2.1 then (laws_FnExactTakeRoom.j0 k a1 a2 a3 bt363.2.2.2.1 bt363.2.2.2.2 bt381.2.2.2.1 bt381.2.2.2.2 (bt381.2.2.2.2 != bt363.2.2.2.2) a0_0 l0_1 l0_2 bt363.1 bt363.2.1 bt363.2.2.1 bt373.1 bt373.2.1 bt373.2.2 bt381.1 bt381.2.1 bt381.2.2.1) else (laws_FnExactTakeRoom.j0 k a1 a2 a3 bt363.2.2.2.1 bt363.2.2.2.2 bt381.2.2.2.1 bt381.2.2.2.2 true a0_0 l0_1 l0_2 bt363.1 bt363.2.1 bt363.2.2.1 bt373.1 bt373.2.1 bt373.2.2 bt381.1 bt381.2.1 bt381.2.2.1)) else (laws_FnExactTakeRoom.j0 k a1 a2 a3 bt363.2.2.2.1 bt363.2.2.2.2 bt381.2.2.2.1 bt381.2.2.2.2 true a0_0 l0_1 l0_2 bt363.1 bt363.2.1 bt363.2.2.1 bt373.1 bt373.2.1 bt373.2.2 bt381.1 bt381.2.1 bt381.2.2.1)))))))) = some r := H
 have A5 := aM A50
 clear A50
 by_cases c6 : t355 < 0
 ·rw [if_pos c6] at H
  have c6b0 : decide (t355 < 0) = true := decide_eq_true c6
  clear c6
  obtain rfl := Option.some.inj H
  go_enter Try.func10, Try.ntmps10
  go_wp2_with (first | ((with_reducible refine gate_dst (N := 4) rfl ?_); refine box_event ?hg (N := 4) ?hd (cs := #[.int .i64 a0_0, .slice A0_1 l0_1.length c0_1, .slice A0_2 l0_2.length c0_2]) (t := 32) ?hr ?_; (case hd => rfl); (case hg => rfl); (case hr => first | (go_simp; done) | (go_simp; rfl)); intro gb354 hg w7 hbox hb; have BK354 := aM (hbox); have GW354 := aM ((by rw [hg]; exact (zZ (zH HB.out)) : w.heap.size ≤ gb354)); have GE354 := aM ((by rw [hg]; exact (zZ (zH HB.out)) : w.heap.size ≤ gb354)); replace HB := aM (zT (zH HB.out) hb); clear hb hbox hg; have hcz8_0 : w7.cell? ⟨gb354, 0, none⟩ = some (.int .i64 a0_0) := yc BK354.out 0; have hcz8_1 : w7.cell? ⟨gb354, 1, none⟩ = some (.slice A0_1 l0_1.length c0_1) := yc BK354.out 1; have hcz8_2 : w7.cell? ⟨gb354, 2, none⟩ = some (.slice A0_2 l0_2.length c0_2) := yc BK354.out 2; have hfz8_0 := yZ BK354.out 0; have hfz8_1 := yZ BK354.out 1; have hfz8_2 := yZ BK354.out 2) | ((with_reducible refine gate_callee (f := 16) rfl ?_); refine goesL_ (some 25) rfl rfl Try.func16 (by kernel_rfl) rfl #[.agg #[.int .i64 a0_0, .slice A0_1 l0_1.length c0_1, .slice A0_2 l0_2.length c0_2], .int .i64 1048576] rfl (by (try simp only [List.map_toArray, List.map_cons, List.map_nil]); first | done | rfl | (simp only [List.length_drop, List.length_take]; rfl)) ?_; (with_reducible refine (laws_szFree.calls a0_0 _ _ l0_1 _ _ l0_2 1048576 t355 _ ?side1 ?side2 ?side3 ?side4 A5.out).mono ?_); (case side1 => exact cK HR0_1.out HB.out); (case side2 => exact HC0_1.out); (case side3 => exact cK HR0_2.out HB.out); (case side4 => exact HC0_2.out); rintro e w9 ⟨rfl, hb⟩; refine ⟨_, rfl, ?_⟩; replace BK354 := yK BK354.out hb; replace HB := aM (zT (zH HB.out) hb); (try clear hb)))
  go_ret
  exact ⟨by first | rfl | (simp [errW_none, errW_some] <;> rfl) | (simp [*, errW_none, errW_some] <;> rfl), zH HB.out⟩
 ·rw [if_neg c6] at H
  have c6b0 : decide (t355 < 0) = false := decide_eq_false c6
  clear c6
  replace H := Option.bind_eq_some_iff.mp H
  obtain ⟨⟨t356, t357, t360⟩, A100, H⟩ := H
  replace H : ((spec_TakeRoom.f k t356 t357 t360 a1 a2 a3).bind fun bt363 => ((laws_toFree.f k a0_0 l0_1 l0_2).bind fun bt373 => ((impl_TakeRoom.f k bt373.1 bt373.2.1 bt373.2.2 a1 a2 a3).bind fun bt381 => ((laws_eqFree.f k bt381.1 bt381.2.1 bt381.2.2.1 bt363.1 bt363.2.1 bt363.2.2.1).bind fun t391 => (if t391 = true then (if bt381.2.2.2.1 = bt363.2.2.2.1 then (laws_FnExactTakeRoom.j0 k a1 a2 a3 bt363.2.2.2.1 bt363.2.2.2.2 bt381.2.2.2.1 bt381.2.2.2.2 (bt381.2.2.2.2 != bt363.2.2.2.2) a0_0 l0_1 l0_2 bt363.1 bt363.2.1 bt363.2.2.1 bt373.1 bt373.2.1 bt373.2.2 bt381.1 bt381.2.1 bt381.2.2.1) else (laws_FnExactTakeRoom.j0 k a1 a2 a3 bt363.2.2.2.1 bt363.2.2.2.2 bt381.2.2.2.1 bt381.2.2.2.2 true a0_0 l0_1 l0_2 bt363.1 bt363.2.1 bt363.2.2.1 bt373.1 bt373.2.1 bt373.2.2 bt381.1 bt381.2.1 bt381.2.2.1)) else (laws_FnExactTakeRoom.j0 k a1 a2 a3 bt363.2.2.2.1 bt363.2.2.2.2 bt381.2.2.2.1 bt381.2.2.2.2 true a0_0 l0_1 l0_2 bt363.1 bt363.2.1 bt363.2.2.1 bt373.1 bt373.2.1 bt373.2.2 bt381.1 bt381.2.1 bt381.2.2.1)))))) = some r := H
  have A10 := aM A100
  clear A100
  replace H := Option.bind_eq_some_iff.mp H
  obtain ⟨⟨t363, t364, t367, t370, t371⟩, A110, H⟩ := H
  replace H : ((laws_toFree.f k a0_0 l0_1 l0_2).bind fun bt373 => ((impl_TakeRoom.f k bt373.1 bt373.2.1 bt373.2.2 a1 a2 a3).bind fun bt381 => ((laws_eqFree.f k bt381.1 bt381.2.1 bt381.2.2.1 t363 t364 t367).bind fun t391 => (if t391 = true then (if bt381.2.2.2.1 = t370 then (laws_FnExactTakeRoom.j0 k a1 a2 a3 t370 t371 bt381.2.2.2.1 bt381.2.2.2.2 (bt381.2.2.2.2 != t371) a0_0 l0_1 l0_2 t363 t364 t367 bt373.1 bt373.2.1 bt373.2.2 bt381.1 bt381.2.1 bt381.2.2.1) else (laws_FnExactTakeRoom.j0 k a1 a2 a3 t370 t371 bt381.2.2.2.1 bt381.2.2.2.2 true a0_0 l0_1 l0_2 t363 t364 t367 bt373.1 bt373.2.1 bt373.2.2 bt381.1 bt381.2.1 bt381.2.2.1)) else (laws_FnExactTakeRoom.j0 k a1 a2 a3 t370 t371 bt381.2.2.2.1 bt381.2.2.2.2 true a0_0 l0_1 l0_2 t363 t364 t367 bt373.1 bt373.2.1 bt373.2.2 bt381.1 bt381.2.1 bt381.2.2.1))))) = some r := H
  have A11 := aM A110
  clear A110
  replace H := Option.bind_eq_some_iff.mp H
  obtain ⟨⟨t373, t374, t377⟩, A120, H⟩ := H
  replace H : ((impl_TakeRoom.f k t373 t374 t377 a1 a2 a3).bind fun bt381 => ((laws_eqFree.f k bt381.1 bt381.2.1 bt381.2.2.1 t363 t364 t367).bind fun t391 => (if t391 = true then (if bt381.2.2.2.1 = t370 then (laws_FnExactTakeRoom.j0 k a1 a2 a3 t370 t371 bt381.2.2.2.1 bt381.2.2.2.2 (bt381.2.2.2.2 != t371) a0_0 l0_1 l0_2 t363 t364 t367 t373 t374 t377 bt381.1 bt381.2.1 bt381.2.2.1) else (laws_FnExactTakeRoom.j0 k a1 a2 a3 t370 t371 bt381.2.2.2.1 bt381.2.2.2.2 true a0_0 l0_1 l0_2 t363 t364 t367 t373 t374 t377 bt381.1 bt381.2.1 bt381.2.2.1)) else (laws_FnExactTakeRoom.j0 k a1 a2 a3 t370 t371 bt381.2.2.2.1 bt381.2.2.2.2 true a0_0 l0_1 l0_2 t363 t364 t367 t373 t374 t377 bt381.1 bt381.2.1 bt381.2.2.1)))) = some r := H
  have A12 := aM A120
  clear A120
  replace H := Option.bind_eq_some_iff.mp H
  obtain ⟨⟨t381, t382, t385, t388, t389⟩, A130, H⟩ := H
  replace H : ((laws_eqFree.f k t381 t382 t385 t363 t364 t367).bind fun t391 => (if t391 = true then (if t388 = t370 then (laws_FnExactTakeRoom.j0 k a1 a2 a3 t370 t371 t388 t389 (t389 != t371) a0_0 l0_1 l0_2 t363 t364 t367 t373 t374 t377 t381 t382 t385) else (laws_FnExactTakeRoom.j0 k a1 a2 a3 t370 t371 t388 t389 true a0_0 l0_1 l0_2 t363 t364 t367 t373 t374 t377 t381 t382 t385)) else (laws_FnExactTakeRoom.j0 k a1 a2 a3 t370 t371 t388 t389 true a0_0 l0_1 l0_2 t363 t364 t367 t373 t374 t377 t381 t382 t385))) = some r := H
  have A13 := aM A130
  clear A130
  have HC14 := aM H
  clear H
  go_enter Try.func10, Try.ntmps10
  go_upto_region 8 with (first | ((with_reducible refine gate_dst (N := 4) rfl ?_); refine box_event ?hg (N := 4) ?hd (cs := #[.int .i64 a0_0, .slice A0_1 l0_1.length c0_1, .slice A0_2 l0_2.length c0_2]) (t := 32) ?hr ?_; (case hd => rfl); (case hg => rfl); (case hr => first | (go_simp; done) | (go_simp; rfl)); intro gb354 hg w15 hbox hb; have BK354 := aM (hbox); have GW354 := aM ((by rw [hg]; exact (zZ (zH HB.out)) : w.heap.size ≤ gb354)); have GE354 := aM ((by rw [hg]; exact (zZ (zH HB.out)) : w.heap.size ≤ gb354)); replace HB := aM (zT (zH HB.out) hb); clear hb hbox hg; have hcz16_0 : w15.cell? ⟨gb354, 0, none⟩ = some (.int .i64 a0_0) := yc BK354.out 0; have hcz16_1 : w15.cell? ⟨gb354, 1, none⟩ = some (.slice A0_1 l0_1.length c0_1) := yc BK354.out 1; have hcz16_2 : w15.cell? ⟨gb354, 2, none⟩ = some (.slice A0_2 l0_2.length c0_2) := yc BK354.out 2; have hfz16_0 := yZ BK354.out 0; have hfz16_1 := yZ BK354.out 1; have hfz16_2 := yZ BK354.out 2) | ((with_reducible refine gate_callee (f := 16) rfl ?_); refine goesL_ (some 25) rfl rfl Try.func16 (by kernel_rfl) rfl #[.agg #[.int .i64 a0_0, .slice A0_1 l0_1.length c0_1, .slice A0_2 l0_2.length c0_2], .int .i64 1048576] rfl (by (try simp only [List.map_toArray, List.map_cons, List.map_nil]); first | done | rfl | (simp only [List.length_drop, List.length_take]; rfl)) ?_; (with_reducible refine (laws_szFree.calls a0_0 _ _ l0_1 _ _ l0_2 1048576 t355 _ ?side1 ?side2 ?side3 ?side4 A5.out).mono ?_); (case side1 => exact cK HR0_1.out HB.out); (case side2 => exact HC0_1.out); (case side3 => exact cK HR0_2.out HB.out); (case side4 => exact HC0_2.out); rintro e w17 ⟨rfl, hb⟩; refine ⟨_, rfl, ?_⟩; replace BK354 := yK BK354.out hb; replace HB := aM (zT (zH HB.out) hb); (try clear hb); have hcz18_0 : w17.cell? ⟨gb354, 0, none⟩ = some (.int .i64 a0_0) := yc BK354.out 0; have hcz18_1 : w17.cell? ⟨gb354, 1, none⟩ = some (.slice A0_1 l0_1.length c0_1) := yc BK354.out 1; have hcz18_2 : w17.cell? ⟨gb354, 2, none⟩ = some (.slice A0_2 l0_2.length c0_2) := yc BK354.out 2; have hfz18_0 := yZ BK354.out 0; have hfz18_1 := yZ BK354.out 1; have hfz18_2 := yZ BK354.out 2) | ((with_reducible refine gate_callee (f := 18) rfl ?_); refine goesL_ (some 30) rfl rfl Try.func18 (by kernel_rfl) rfl #[.agg #[.int .i64 a0_0, .slice A0_1 l0_1.length c0_1, .slice A0_2 l0_2.length c0_2]] rfl (by (try simp only [List.map_toArray, List.map_cons, List.map_nil]); first | done | rfl | (simp only [List.length_drop, List.length_take]; rfl)) ?_; (with_reducible refine (laws_toFree.calls k a0_0 _ _ l0_1 _ _ l0_2 t356 t357 t360 _ ?side1 ?side2 ?side3 ?side4 A10.out).mono ?_); (case side1 => exact cK HR0_1.out HB.out); (case side2 => exact HC0_1.out); (case side3 => exact cK HR0_2.out HB.out); (case side4 => exact HC0_2.out); rintro e w19 ⟨v358, v361, rfl, ho0, ho1, hb⟩; refine ⟨_, rfl, ?_⟩; have HO359 := aM (xL ho0 (zZ (zH HB.out))); have HO362 := aM (xL ho1 (zZ (zH HB.out))); replace BK354 := yK BK354.out hb; replace HB := aM (zT (zH HB.out) hb); (try clear hb); (try clear ho0); (try clear ho1); obtain ⟨Ao20, co20, eo20⟩ := Kd.R_slice HO359.out; subst eo20; obtain ⟨Ao21, co21, eo21⟩ := Kd.R_slice HO362.out; subst eo21) | ((with_reducible refine gate_callee (f := 34) rfl ?_); refine goesL_ (some 34) rfl rfl Try.func34 (by kernel_rfl) rfl #[.agg #[.int .i64 t356, .slice Ao20 t357.length co20, .slice Ao21 t360.length co21], .int .i64 a1, .int .i64 a2, .int .i64 a3] rfl (by (try simp only [List.map_toArray, List.map_cons, List.map_nil]); first | done | rfl | (simp only [List.length_drop, List.length_take]; rfl)) ?_; (with_reducible refine (spec_TakeRoom.calls k t356 _ _ t357 _ _ t360 a1 a2 a3 t363 t364 t367 t370 t371 _ ?side1 ?side2 ?side3 ?side4 A11.out).mono ?_); (case side1 => repeat (first | exact (Kd.R_reads' HO359.out).2.2 | (with_reducible refine cA ?_ _) | (with_reducible refine cN ?_ _) | (with_reducible refine cD ?_))); (case side2 => exact (Kd.R_reads' HO359.out).2.1); (case side3 => repeat (first | exact (Kd.R_reads' HO362.out).2.2 | (with_reducible refine cA ?_ _) | (with_reducible refine cN ?_ _) | (with_reducible refine cD ?_))); (case side4 => exact (Kd.R_reads' HO362.out).2.1); rintro e w22 ⟨v365, v368, rfl, ho0, ho1, hb⟩; refine ⟨_, rfl, ?_⟩; have HO366 := aM (xL (Kd.R_new' (Kd.R_new' ho0 (Kd.R_lt (xH HO359.out))) (Kd.R_lt (xH HO362.out))) (zZ (zH HB.out))); have HO369 := aM (xL (Kd.R_new' (Kd.R_new' ho1 (Kd.R_lt (xH HO359.out))) (Kd.R_lt (xH HO362.out))) (zZ (zH HB.out))); replace HO359 := aM (xM (Kd.R_told (Kd.R_told (Kd.R_old (xH HO359.out) hb) (Kd.R_base ho0)) (Kd.R_base ho1)) (fun _ h_ => h_.1)); replace HO362 := aM (xM (Kd.R_told (Kd.R_told (Kd.R_old (xH HO362.out) hb) (Kd.R_base ho0)) (Kd.R_base ho1)) (fun _ h_ => h_.1)); replace BK354 := yK BK354.out hb; replace HB := aM (zT (zH HB.out) hb); (try clear hb); (try clear ho0); (try clear ho1)) | ((with_reducible refine gate_dst (N := 10) rfl ?_); refine box_event ?hg (N := 10) ?hd (cs := #[.int .i64 0, .slice none 0 0, .slice none 0 0]) (t := 24) ?hr ?_; (case hd => rfl); (case hg => rfl); (case hr => first | (go_simp; done) | (go_simp; rfl)); intro gb372 hg w23 hbox hb; replace HO359 := xK HO359.out hb; replace HO362 := xK HO362.out hb; replace HO366 := xK HO366.out hb; replace HO369 := xK HO369.out hb; have BK372 := aM (hbox); have GW372 := aM ((by rw [hg]; exact (zZ (zH HB.out)) : w.heap.size ≤ gb372)); have GE372 := aM ((by rw [hg]; exact (zZ (zH HB.out)) : w.heap.size ≤ gb372)); replace HB := aM (zT (zH HB.out) hb); have NB354_372 := nL BK354.out hg; have NB372_354 := nR BK354.out hg; replace BK354 := yK BK354.out hb; clear hb hbox hg; have hnb24 := NB372_354.out; have hnc24 := NB354_372.out; have hcz25_0 : w23.cell? ⟨gb372, 0, none⟩ = some (.int .i64 0) := yc BK372.out 0; have hcz25_1 : w23.cell? ⟨gb372, 1, none⟩ = some (.slice none 0 0) := yc BK372.out 1; have hcz25_2 : w23.cell? ⟨gb372, 2, none⟩ = some (.slice none 0 0) := yc BK372.out 2; have hfz25_0 := yZ BK372.out 0; have hfz25_1 := yZ BK372.out 1; have hfz25_2 := yZ BK372.out 2; obtain ⟨Ao26, co26, eo26⟩ := Kd.R_slice HO366.out; subst eo26; obtain ⟨Ao27, co27, eo27⟩ := Kd.R_slice HO369.out; subst eo27; have hcz28_0 : w23.cell? ⟨gb354, 0, none⟩ = some (.int .i64 a0_0) := yc BK354.out 0; have hcz28_1 : w23.cell? ⟨gb354, 1, none⟩ = some (.slice A0_1 l0_1.length c0_1) := yc BK354.out 1; have hcz28_2 : w23.cell? ⟨gb354, 2, none⟩ = some (.slice A0_2 l0_2.length c0_2) := yc BK354.out 2; have hfz28_0 := yZ BK354.out 0; have hfz28_1 := yZ BK354.out 1; have hfz28_2 := yZ BK354.out 2) | ((with_reducible refine gate_callee (f := 18) rfl ?_); refine goesL_ (some 39) rfl rfl Try.func18 (by kernel_rfl) rfl #[.agg #[.int .i64 a0_0, .slice A0_1 l0_1.length c0_1, .slice A0_2 l0_2.length c0_2]] rfl (by (try simp only [List.map_toArray, List.map_cons, List.map_nil]); first | done | rfl | (simp only [List.length_drop, List.length_take]; rfl)) ?_; (with_reducible refine (laws_toFree.calls k a0_0 _ _ l0_1 _ _ l0_2 t373 t374 t377 _ ?side1 ?side2 ?side3 ?side4 A12.out).mono ?_); (case side1 => exact cB HR0_1.out (zH HB.out)); (case side2 => exact HC0_1.out); (case side3 => exact cB HR0_2.out (zH HB.out)); (case side4 => exact HC0_2.out); rintro e w29 ⟨v375, v378, rfl, ho0, ho1, hb⟩; refine ⟨_, rfl, ?_⟩; have HO376 := aM (xL (Kd.R_new' (Kd.R_new' (Kd.R_new' (Kd.R_new' ho0 (Kd.R_lt (xH ((x3 HO359.out BK372.out (by decide) (.int .i64 t363) (.slice Ao26 t364.length co26) (.slice Ao27 t367.length co27)))))) (Kd.R_lt (xH ((x3 HO362.out BK372.out (by decide) (.int .i64 t363) (.slice Ao26 t364.length co26) (.slice Ao27 t367.length co27)))))) (Kd.R_lt (xH ((x3 HO366.out BK372.out (by decide) (.int .i64 t363) (.slice Ao26 t364.length co26) (.slice Ao27 t367.length co27)))))) (Kd.R_lt (xH ((x3 HO369.out BK372.out (by decide) (.int .i64 t363) (.slice Ao26 t364.length co26) (.slice Ao27 t367.length co27)))))) (zZ (zH HB.out))); have HO379 := aM (xL (Kd.R_new' (Kd.R_new' (Kd.R_new' (Kd.R_new' ho1 (Kd.R_lt (xH ((x3 HO359.out BK372.out (by decide) (.int .i64 t363) (.slice Ao26 t364.length co26) (.slice Ao27 t367.length co27)))))) (Kd.R_lt (xH ((x3 HO362.out BK372.out (by decide) (.int .i64 t363) (.slice Ao26 t364.length co26) (.slice Ao27 t367.length co27)))))) (Kd.R_lt (xH ((x3 HO366.out BK372.out (by decide) (.int .i64 t363) (.slice Ao26 t364.length co26) (.slice Ao27 t367.length co27)))))) (Kd.R_lt (xH ((x3 HO369.out BK372.out (by decide) (.int .i64 t363) (.slice Ao26 t364.length co26) (.slice Ao27 t367.length co27)))))) (zZ (zH HB.out))); replace HO359 := aM (xM (Kd.R_told (Kd.R_told (Kd.R_old (xH ((x3 HO359.out BK372.out (by decide) (.int .i64 t363) (.slice Ao26 t364.length co26) (.slice Ao27 t367.length co27)))) hb) (Kd.R_base ho0)) (Kd.R_base ho1)) (fun _ h_ => h_.1)); replace HO362 := aM (xM (Kd.R_told (Kd.R_told (Kd.R_old (xH ((x3 HO362.out BK372.out (by decide) (.int .i64 t363) (.slice Ao26 t364.length co26) (.slice Ao27 t367.length co27)))) hb) (Kd.R_base ho0)) (Kd.R_base ho1)) (fun _ h_ => h_.1)); replace HO366 := aM (xM (Kd.R_told (Kd.R_told (Kd.R_old (xH ((x3 HO366.out BK372.out (by decide) (.int .i64 t363) (.slice Ao26 t364.length co26) (.slice Ao27 t367.length co27)))) hb) (Kd.R_base ho0)) (Kd.R_base ho1)) (fun _ h_ => h_.1)); replace HO369 := aM (xM (Kd.R_told (Kd.R_told (Kd.R_old (xH ((x3 HO369.out BK372.out (by decide) (.int .i64 t363) (.slice Ao26 t364.length co26) (.slice Ao27 t367.length co27)))) hb) (Kd.R_base ho0)) (Kd.R_base ho1)) (fun _ h_ => h_.1)); replace BK354 := aM (yB (g := gb354) (o := .cells #[.int .i64 a0_0, .slice A0_1 l0_1.length c0_1, .slice A0_2 l0_2.length c0_2] 32 (0, 0)) (by (with_reducible repeat (first | refine yN ?_ _ | refine yD ?_ | refine yA ?_ _)); refine yF ?_ NB354_372.out _; (with_reducible repeat (first | refine yN ?_ _ | refine yD ?_ | refine yA ?_ _)); refine yF ?_ NB354_372.out _; (with_reducible repeat (first | refine yN ?_ _ | refine yD ?_ | refine yA ?_ _)); refine yF ?_ NB354_372.out _; (with_reducible repeat (first | refine yN ?_ _ | refine yD ?_ | refine yA ?_ _)); exact BK354.out) hb); replace BK372 := aM (yB (g := gb372) (o := .cells #[.int .i64 t363, .slice Ao26 t364.length co26, .slice Ao27 t367.length co27] 24 (0, 0)) (by (with_reducible repeat (first | refine yN ?_ _ | refine yD ?_ | refine yA ?_ _)); refine yP (cs := #[.int .i64 t363, .slice Ao26 t364.length co26, .slice none 0 0]) ?_ 2 _ rfl; (with_reducible repeat (first | refine yN ?_ _ | refine yD ?_ | refine yA ?_ _)); refine yP (cs := #[.int .i64 t363, .slice none 0 0, .slice none 0 0]) ?_ 1 _ rfl; (with_reducible repeat (first | refine yN ?_ _ | refine yD ?_ | refine yA ?_ _)); refine yP (cs := #[.int .i64 0, .slice none 0 0, .slice none 0 0]) ?_ 0 _ rfl; (with_reducible repeat (first | refine yN ?_ _ | refine yD ?_ | refine yA ?_ _)); exact BK372.out) hb); replace HB := aM (zT (zH HB.out) hb); (try clear hb); (try clear ho0); (try clear ho1)) | ((with_reducible refine gate_dst (N := 13) rfl ?_); refine box_event ?hg (N := 13) ?hd (cs := #[.int .i64 0, .slice none 0 0, .slice none 0 0]) (t := 24) ?hr ?_; (case hd => rfl); (case hg => rfl); (case hr => first | (go_simp; done) | (go_simp; rfl)); intro gb380 hg w30 hbox hb; replace HO359 := xK HO359.out hb; replace HO362 := xK HO362.out hb; replace HO366 := xK HO366.out hb; replace HO369 := xK HO369.out hb; replace HO376 := xK HO376.out hb; replace HO379 := xK HO379.out hb; have BK380 := aM (hbox); have GW380 := aM ((by rw [hg]; exact (zZ (zH HB.out)) : w.heap.size ≤ gb380)); have GE380 := aM ((by rw [hg]; exact (zZ (zH HB.out)) : w.heap.size ≤ gb380)); replace HB := aM (zT (zH HB.out) hb); have NB354_380 := nL BK354.out hg; have NB380_354 := nR BK354.out hg; replace BK354 := yK BK354.out hb; have NB372_380 := nL BK372.out hg; have NB380_372 := nR BK372.out hg; replace BK372 := yK BK372.out hb; clear hb hbox hg; have hnb31 := NB380_354.out; have hnc31 := NB354_380.out; have hnb32 := NB380_372.out; have hnc32 := NB372_380.out; have hcz33_0 : w30.cell? ⟨gb380, 0, none⟩ = some (.int .i64 0) := yc BK380.out 0; have hcz33_1 : w30.cell? ⟨gb380, 1, none⟩ = some (.slice none 0 0) := yc BK380.out 1; have hcz33_2 : w30.cell? ⟨gb380, 2, none⟩ = some (.slice none 0 0) := yc BK380.out 2; have hfz33_0 := yZ BK380.out 0; have hfz33_1 := yZ BK380.out 1; have hfz33_2 := yZ BK380.out 2; obtain ⟨Ao34, co34, eo34⟩ := Kd.R_slice HO376.out; subst eo34; obtain ⟨Ao35, co35, eo35⟩ := Kd.R_slice HO379.out; subst eo35) | ((with_reducible refine gate_callee (f := 35) rfl ?_); refine goesL_ (some 45) rfl rfl Try.func35 (by kernel_rfl) rfl #[.agg #[.int .i64 t373, .slice Ao34 t374.length co34, .slice Ao35 t377.length co35], .int .i64 a1, .int .i64 a2, .int .i64 a3] rfl (by (try simp only [List.map_toArray, List.map_cons, List.map_nil]); first | done | rfl | (simp only [List.length_drop, List.length_take]; rfl)) ?_; (with_reducible refine (impl_TakeRoom.calls k t373 _ _ t374 _ _ t377 a1 a2 a3 t381 t382 t385 t388 t389 _ ?side1 ?side2 ?side3 ?side4 A13.out).mono ?_); (case side1 => exact rC (n := t374.length) (c := co34) ((x3 HO376.out BK380.out (by decide) (.int .i64 t373) (.slice Ao34 t374.length co34) (.slice Ao35 t377.length co35)))); (case side2 => exact (Kd.R_reads' HO376.out).2.1); (case side3 => exact rC (n := t377.length) (c := co35) ((x3 HO379.out BK380.out (by decide) (.int .i64 t373) (.slice Ao34 t374.length co34) (.slice Ao35 t377.length co35)))); (case side4 => exact (Kd.R_reads' HO379.out).2.1); rintro e w36 ⟨v383, v386, rfl, ho0, ho1, hb⟩; refine ⟨_, rfl, ?_⟩; have HO384 := aM (xL (Kd.R_new' (Kd.R_new' (Kd.R_new' (Kd.R_new' (Kd.R_new' (Kd.R_new' ho0 (Kd.R_lt (xH ((x3 HO359.out BK380.out (by decide) (.int .i64 t373) (.slice Ao34 t374.length co34) (.slice Ao35 t377.length co35)))))) (Kd.R_lt (xH ((x3 HO362.out BK380.out (by decide) (.int .i64 t373) (.slice Ao34 t374.length co34) (.slice Ao35 t377.length co35)))))) (Kd.R_lt (xH ((x3 HO366.out BK380.out (by decide) (.int .i64 t373) (.slice Ao34 t374.length co34) (.slice Ao35 t377.length co35)))))) (Kd.R_lt (xH ((x3 HO369.out BK380.out (by decide) (.int .i64 t373) (.slice Ao34 t374.length co34) (.slice Ao35 t377.length co35)))))) (Kd.R_lt (xH ((x3 HO376.out BK380.out (by decide) (.int .i64 t373) (.slice Ao34 t374.length co34) (.slice Ao35 t377.length co35)))))) (Kd.R_lt (xH ((x3 HO379.out BK380.out (by decide) (.int .i64 t373) (.slice Ao34 t374.length co34) (.slice Ao35 t377.length co35)))))) (zZ (zH HB.out))); have HO387 := aM (xL (Kd.R_new' (Kd.R_new' (Kd.R_new' (Kd.R_new' (Kd.R_new' (Kd.R_new' ho1 (Kd.R_lt (xH ((x3 HO359.out BK380.out (by decide) (.int .i64 t373) (.slice Ao34 t374.length co34) (.slice Ao35 t377.length co35)))))) (Kd.R_lt (xH ((x3 HO362.out BK380.out (by decide) (.int .i64 t373) (.slice Ao34 t374.length co34) (.slice Ao35 t377.length co35)))))) (Kd.R_lt (xH ((x3 HO366.out BK380.out (by decide) (.int .i64 t373) (.slice Ao34 t374.length co34) (.slice Ao35 t377.length co35)))))) (Kd.R_lt (xH ((x3 HO369.out BK380.out (by decide) (.int .i64 t373) (.slice Ao34 t374.length co34) (.slice Ao35 t377.length co35)))))) (Kd.R_lt (xH ((x3 HO376.out BK380.out (by decide) (.int .i64 t373) (.slice Ao34 t374.length co34) (.slice Ao35 t377.length co35)))))) (Kd.R_lt (xH ((x3 HO379.out BK380.out (by decide) (.int .i64 t373) (.slice Ao34 t374.length co34) (.slice Ao35 t377.length co35)))))) (zZ (zH HB.out))); replace HO359 := aM (xM (Kd.R_told (Kd.R_told (Kd.R_old (xH ((x3 HO359.out BK380.out (by decide) (.int .i64 t373) (.slice Ao34 t374.length co34) (.slice Ao35 t377.length co35)))) hb) (Kd.R_base ho0)) (Kd.R_base ho1)) (fun _ h_ => h_.1)); replace HO362 := aM (xM (Kd.R_told (Kd.R_told (Kd.R_old (xH ((x3 HO362.out BK380.out (by decide) (.int .i64 t373) (.slice Ao34 t374.length co34) (.slice Ao35 t377.length co35)))) hb) (Kd.R_base ho0)) (Kd.R_base ho1)) (fun _ h_ => h_.1)); replace HO366 := aM (xM (Kd.R_told (Kd.R_told (Kd.R_old (xH ((x3 HO366.out BK380.out (by decide) (.int .i64 t373) (.slice Ao34 t374.length co34) (.slice Ao35 t377.length co35)))) hb) (Kd.R_base ho0)) (Kd.R_base ho1)) (fun _ h_ => h_.1)); replace HO369 := aM (xM (Kd.R_told (Kd.R_told (Kd.R_old (xH ((x3 HO369.out BK380.out (by decide) (.int .i64 t373) (.slice Ao34 t374.length co34) (.slice Ao35 t377.length co35)))) hb) (Kd.R_base ho0)) (Kd.R_base ho1)) (fun _ h_ => h_.1)); replace HO376 := aM (xM (Kd.R_told (Kd.R_told (Kd.R_old (xH ((x3 HO376.out BK380.out (by decide) (.int .i64 t373) (.slice Ao34 t374.length co34) (.slice Ao35 t377.length co35)))) hb) (Kd.R_base ho0)) (Kd.R_base ho1)) (fun _ h_ => h_.1)); replace HO379 := aM (xM (Kd.R_told (Kd.R_told (Kd.R_old (xH ((x3 HO379.out BK380.out (by decide) (.int .i64 t373) (.slice Ao34 t374.length co34) (.slice Ao35 t377.length co35)))) hb) (Kd.R_base ho0)) (Kd.R_base ho1)) (fun _ h_ => h_.1)); replace BK354 := aM (yB (g := gb354) (o := .cells #[.int .i64 a0_0, .slice A0_1 l0_1.length c0_1, .slice A0_2 l0_2.length c0_2] 32 (0, 0)) (by (with_reducible repeat (first | refine yN ?_ _ | refine yD ?_ | refine yA ?_ _)); refine yF ?_ NB354_380.out _; (with_reducible repeat (first | refine yN ?_ _ | refine yD ?_ | refine yA ?_ _)); refine yF ?_ NB354_380.out _; (with_reducible repeat (first | refine yN ?_ _ | refine yD ?_ | refine yA ?_ _)); refine yF ?_ NB354_380.out _; (with_reducible repeat (first | refine yN ?_ _ | refine yD ?_ | refine yA ?_ _)); exact BK354.out) hb); replace BK372 := aM (yB (g := gb372) (o := .cells #[.int .i64 t363, .slice Ao26 t364.length co26, .slice Ao27 t367.length co27] 24 (0, 0)) (by (with_reducible repeat (first | refine yN ?_ _ | refine yD ?_ | refine yA ?_ _)); refine yF ?_ NB372_380.out _; (with_reducible repeat (first | refine yN ?_ _ | refine yD ?_ | refine yA ?_ _)); refine yF ?_ NB372_380.out _; (with_reducible repeat (first | refine yN ?_ _ | refine yD ?_ | refine yA ?_ _)); refine yF ?_ NB372_380.out _; (with_reducible repeat (first | refine yN ?_ _ | refine yD ?_ | refine yA ?_ _)); exact BK372.out) hb); replace BK380 := aM (yB (g := gb380) (o := .cells #[.int .i64 t373, .slice Ao34 t374.length co34, .slice Ao35 t377.length co35] 24 (0, 0)) (by (with_reducible repeat (first | refine yN ?_ _ | refine yD ?_ | refine yA ?_ _)); refine yP (cs := #[.int .i64 t373, .slice Ao34 t374.length co34, .slice none 0 0]) ?_ 2 _ rfl; (with_reducible repeat (first | refine yN ?_ _ | refine yD ?_ | refine yA ?_ _)); refine yP (cs := #[.int .i64 t373, .slice none 0 0, .slice none 0 0]) ?_ 1 _ rfl; (with_reducible repeat (first | refine yN ?_ _ | refine yD ?_ | refine yA ?_ _)); refine yP (cs := #[.int .i64 0, .slice none 0 0, .slice none 0 0]) ?_ 0 _ rfl; (with_reducible repeat (first | refine yN ?_ _ | refine yD ?_ | refine yA ?_ _)); exact BK380.out) hb); replace HB := aM (zT (zH HB.out) hb); (try clear hb); (try clear ho0); (try clear ho1)) | ((with_reducible refine gate_dst (N := 14) rfl ?_); refine box_event ?hg (N := 14) ?hd (cs := #[.int .i64 0, .slice none 0 0, .slice none 0 0]) (t := 24) ?hr ?_; (case hd => rfl); (case hg => rfl); (case hr => first | (go_simp; done) | (go_simp; rfl)); intro gb390 hg w37 hbox hb; replace HO359 := xK HO359.out hb; replace HO362 := xK HO362.out hb; replace HO366 := xK HO366.out hb; replace HO369 := xK HO369.out hb; replace HO376 := xK HO376.out hb; replace HO379 := xK HO379.out hb; replace HO384 := xK HO384.out hb; replace HO387 := xK HO387.out hb; have BK390 := aM (hbox); have GW390 := aM ((by rw [hg]; exact (zZ (zH HB.out)) : w.heap.size ≤ gb390)); have GE390 := aM ((by rw [hg]; exact (zZ (zH HB.out)) : w.heap.size ≤ gb390)); replace HB := aM (zT (zH HB.out) hb); have NB354_390 := nL BK354.out hg; have NB390_354 := nR BK354.out hg; replace BK354 := yK BK354.out hb; have NB372_390 := nL BK372.out hg; have NB390_372 := nR BK372.out hg; replace BK372 := yK BK372.out hb; have NB380_390 := nL BK380.out hg; have NB390_380 := nR BK380.out hg; replace BK380 := yK BK380.out hb; clear hb hbox hg; have hnb38 := NB390_354.out; have hnc38 := NB354_390.out; have hnb39 := NB390_372.out; have hnc39 := NB372_390.out; have hnb40 := NB390_380.out; have hnc40 := NB380_390.out; have hcz41_0 : w37.cell? ⟨gb390, 0, none⟩ = some (.int .i64 0) := yc BK390.out 0; have hcz41_1 : w37.cell? ⟨gb390, 1, none⟩ = some (.slice none 0 0) := yc BK390.out 1; have hcz41_2 : w37.cell? ⟨gb390, 2, none⟩ = some (.slice none 0 0) := yc BK390.out 2; have hfz41_0 := yZ BK390.out 0; have hfz41_1 := yZ BK390.out 1; have hfz41_2 := yZ BK390.out 2; obtain ⟨Ao42, co42, eo42⟩ := Kd.R_slice HO384.out; subst eo42; obtain ⟨Ao43, co43, eo43⟩ := Kd.R_slice HO387.out; subst eo43))
  (try simp only [Act.put, qA, qB, qC])
  go_cut [62] (fun v62 wc => ∃ (kq : Nat) (x62_13 : Bool), v62 = .bool x62_13 ∧ Aside0 (laws_FnExactTakeRoom.j0 kq a1 a2 a3 t370 t371 t388 t389 x62_13 a0_0 l0_1 l0_2 t363 t364 t367 t373 t374 t377 t381 t382 t385 = some r) ∧ Aside0 (kq ≤ k) ∧ Aside0 (Kd.R k49 49 wc w.heap.size (fun k_ => some k_ ≠ oB Ao27 t367.length co27 ∧ some k_ ≠ oB Ao34 t374.length co34 ∧ some k_ ≠ oB Ao35 t377.length co35 ∧ some k_ ≠ oB Ao42 t382.length co42 ∧ some k_ ≠ oB Ao43 t385.length co43) (.slice Ao26 t364.length co26) t364) ∧ Aside0 (Kd.R k49 49 wc w.heap.size (fun k_ => some k_ ≠ oB Ao26 t364.length co26 ∧ some k_ ≠ oB Ao34 t374.length co34 ∧ some k_ ≠ oB Ao35 t377.length co35 ∧ some k_ ≠ oB Ao42 t382.length co42 ∧ some k_ ≠ oB Ao43 t385.length co43) (.slice Ao27 t367.length co27) t367) ∧ Aside0 (Kd.R k49 49 wc w.heap.size (fun k_ => some k_ ≠ oB Ao26 t364.length co26 ∧ some k_ ≠ oB Ao27 t367.length co27 ∧ some k_ ≠ oB Ao35 t377.length co35 ∧ some k_ ≠ oB Ao42 t382.length co42 ∧ some k_ ≠ oB Ao43 t385.length co43) (.slice Ao34 t374.length co34) t374) ∧ Aside0 (Kd.R k49 49 wc w.heap.size (fun k_ => some k_ ≠ oB Ao26 t364.length co26 ∧ some k_ ≠ oB Ao27 t367.length co27 ∧ some k_ ≠ oB Ao34 t374.length co34 ∧ some k_ ≠ oB Ao42 t382.length co42 ∧ some k_ ≠ oB Ao43 t385.length co43) (.slice Ao35 t377.length co35) t377) ∧ Aside0 (Kd.R k49 49 wc w.heap.size (fun k_ => some k_ ≠ oB Ao26 t364.length co26 ∧ some k_ ≠ oB Ao27 t367.length co27 ∧ some k_ ≠ oB Ao34 t374.length co34 ∧ some k_ ≠ oB Ao35 t377.length co35 ∧ some k_ ≠ oB Ao43 t385.length co43) (.slice Ao42 t382.length co42) t382) ∧ Aside0 (Kd.R k49 49 wc w.heap.size (fun k_ => some k_ ≠ oB Ao26 t364.length co26 ∧ some k_ ≠ oB Ao27 t367.length co27 ∧ some k_ ≠ oB Ao34 t374.length co34 ∧ some k_ ≠ oB Ao35 t377.length co35 ∧ some k_ ≠ oB Ao42 t382.length co42) (.slice Ao43 t385.length co43) t385) ∧ Aside0 (wc.heap[gb354]? = some (.cells #[.int .i64 a0_0, (.slice A0_1 l0_1.length c0_1), (.slice A0_2 l0_2.length c0_2)] 32 (0, 0))) ∧ Aside0 (wc.heap[gb372]? = some (.cells #[.int .i64 t363, (.slice Ao26 t364.length co26), (.slice Ao27 t367.length co27)] 24 (0, 0))) ∧ Aside0 (wc.heap[gb380]? = some (.cells #[.int .i64 t373, (.slice Ao34 t374.length co34), (.slice Ao35 t377.length co35)] 24 (0, 0))) ∧ Aside0 (wc.heap[gb390]? = some (.cells #[.int .i64 t381, (.slice Ao42 t382.length co42), (.slice Ao43 t385.length co43)] 24 (0, 0))) ∧ Aside0 (Below w.heap.size w wc))
  case first =>
   have H := HC14.out
   clear HC14
   replace H := Option.bind_eq_some_iff.mp H
   obtain ⟨t391, A440, H⟩ := H
   replace H : (if t391 = true then (if t388 = t370 then (laws_FnExactTakeRoom.j0 k a1 a2 a3 t370 t371 t388 t389 (t389 != t371) a0_0 l0_1 l0_2 t363 t364 t367 t373 t374 t377 t381 t382 t385) else (laws_FnExactTakeRoom.j0 k a1 a2 a3 t370 t371 t388 t389 true a0_0 l0_1 l0_2 t363 t364 t367 t373 t374 t377 t381 t382 t385)) else (laws_FnExactTakeRoom.j0 k a1 a2 a3 t370 t371 t388 t389 true a0_0 l0_1 l0_2 t363 t364 t367 t373 t374 t377 t381 t382 t385)) = some r := H
   have A44 := aM A440
   clear A440
   by_cases c45 : t391 = true
   ·subst c45
    have H1 : (if t388 = t370 then (laws_FnExactTakeRoom.j0 k a1 a2 a3 t370 t371 t388 t389 (t389 != t371) a0_0 l0_1 l0_2 t363 t364 t367 t373 t374 t377 t381 t382 t385) else (laws_FnExactTakeRoom.j0 k a1 a2 a3 t370 t371 t388 t389 true a0_0 l0_1 l0_2 t363 t364 t367 t373 t374 t377 t381 t382 t385)) = some r := by rw [if_pos rfl] at H; exact H
    clear H
    have H := H1
    clear H1
    by_cases c46 : t388 = t370
    ·rw [if_pos c46] at H
     have c46b0 : (t388 == t370) = true := beq_iff_eq.mpr c46
     have c46b1 : (t388 != t370) = false := bne_eq_false_iff_eq.mpr c46
     clear c46
     (first | rw [c46b0] | (simp only [i64_w, i32_w]; rw [c46b0]) | skip)
     have H' := aM H
     clear H
     have hnb47 := NB390_354.out
     have hnc47 := NB354_390.out
     have hnb48 := NB390_372.out
     have hnc48 := NB372_390.out
     have hnb49 := NB390_380.out
     have hnc49 := NB380_390.out
     have hcz50_0 : w37.cell? ⟨gb390, 0, none⟩ = some (.int .i64 0) := yc BK390.out 0
     have hcz50_1 : w37.cell? ⟨gb390, 1, none⟩ = some (.slice none 0 0) := yc BK390.out 1
     have hcz50_2 : w37.cell? ⟨gb390, 2, none⟩ = some (.slice none 0 0) := yc BK390.out 2
     have hfz50_0 := yZ BK390.out 0
     have hfz50_1 := yZ BK390.out 1
     have hfz50_2 := yZ BK390.out 2
     have hnb51 := NB372_354.out
     have hnc51 := NB354_372.out
     have hnb52 := NB372_380.out
     have hnc52 := NB380_372.out
     have hcz53_0 : w37.cell? ⟨gb372, 0, none⟩ = some (.int .i64 t363) := yc BK372.out 0
     have hcz53_1 : w37.cell? ⟨gb372, 1, none⟩ = some (.slice Ao26 t364.length co26) := yc BK372.out 1
     have hcz53_2 : w37.cell? ⟨gb372, 2, none⟩ = some (.slice Ao27 t367.length co27) := yc BK372.out 2
     have hfz53_0 := yZ BK372.out 0
     have hfz53_1 := yZ BK372.out 1
     have hfz53_2 := yZ BK372.out 2
     go_wp2_with (first | ((with_reducible refine gate_callee (f := 13) rfl ?_); refine goesL_ (some 51) rfl rfl Try.func13 (by kernel_rfl) rfl #[.agg #[.int .i64 t381, .slice Ao42 t382.length co42, .slice Ao43 t385.length co43], .agg #[.int .i64 t363, .slice Ao26 t364.length co26, .slice Ao27 t367.length co27]] rfl (by (try simp only [List.map_toArray, List.map_cons, List.map_nil]); first | done | rfl | (simp only [List.length_drop, List.length_take]; rfl)) ?_; (with_reducible refine (laws_eqFree.calls k t381 _ _ t382 _ _ t385 t363 _ _ t364 _ _ t367 true _ ?side1 ?side2 ?side3 ?side4 ?side5 ?side6 ?side7 ?side8 A44.out).mono ?_); (case side1 => exact rC (n := t382.length) (c := co42) ((x3 HO384.out BK390.out (by decide) (.int .i64 t381) (.slice Ao42 t382.length co42) (.slice Ao43 t385.length co43)))); (case side2 => exact (Kd.R_reads' HO384.out).2.1); (case side3 => exact rC (n := t385.length) (c := co43) ((x3 HO387.out BK390.out (by decide) (.int .i64 t381) (.slice Ao42 t382.length co42) (.slice Ao43 t385.length co43)))); (case side4 => exact (Kd.R_reads' HO387.out).2.1); (case side5 => exact rC (n := t364.length) (c := co26) ((x3 HO366.out BK390.out (by decide) (.int .i64 t381) (.slice Ao42 t382.length co42) (.slice Ao43 t385.length co43)))); (case side6 => exact (Kd.R_reads' HO366.out).2.1); (case side7 => exact rC (n := t367.length) (c := co27) ((x3 HO369.out BK390.out (by decide) (.int .i64 t381) (.slice Ao42 t382.length co42) (.slice Ao43 t385.length co43)))); (case side8 => exact (Kd.R_reads' HO369.out).2.1); rintro e w54 ⟨rfl, hb⟩; refine ⟨_, rfl, ?_⟩; replace HO359 := aM (xB (xH ((x3 HO359.out BK390.out (by decide) (.int .i64 t381) (.slice Ao42 t382.length co42) (.slice Ao43 t385.length co43)))) hb); replace HO362 := aM (xB (xH ((x3 HO362.out BK390.out (by decide) (.int .i64 t381) (.slice Ao42 t382.length co42) (.slice Ao43 t385.length co43)))) hb); replace HO366 := aM (xB (xH ((x3 HO366.out BK390.out (by decide) (.int .i64 t381) (.slice Ao42 t382.length co42) (.slice Ao43 t385.length co43)))) hb); replace HO369 := aM (xB (xH ((x3 HO369.out BK390.out (by decide) (.int .i64 t381) (.slice Ao42 t382.length co42) (.slice Ao43 t385.length co43)))) hb); replace HO376 := aM (xB (xH ((x3 HO376.out BK390.out (by decide) (.int .i64 t381) (.slice Ao42 t382.length co42) (.slice Ao43 t385.length co43)))) hb); replace HO379 := aM (xB (xH ((x3 HO379.out BK390.out (by decide) (.int .i64 t381) (.slice Ao42 t382.length co42) (.slice Ao43 t385.length co43)))) hb); replace HO384 := aM (xB (xH ((x3 HO384.out BK390.out (by decide) (.int .i64 t381) (.slice Ao42 t382.length co42) (.slice Ao43 t385.length co43)))) hb); replace HO387 := aM (xB (xH ((x3 HO387.out BK390.out (by decide) (.int .i64 t381) (.slice Ao42 t382.length co42) (.slice Ao43 t385.length co43)))) hb); replace BK354 := aM (yB (g := gb354) (o := .cells #[.int .i64 a0_0, .slice A0_1 l0_1.length c0_1, .slice A0_2 l0_2.length c0_2] 32 (0, 0)) (by (with_reducible repeat (first | refine yN ?_ _ | refine yD ?_ | refine yA ?_ _)); refine yF ?_ NB354_390.out _; (with_reducible repeat (first | refine yN ?_ _ | refine yD ?_ | refine yA ?_ _)); refine yF ?_ NB354_390.out _; (with_reducible repeat (first | refine yN ?_ _ | refine yD ?_ | refine yA ?_ _)); refine yF ?_ NB354_390.out _; (with_reducible repeat (first | refine yN ?_ _ | refine yD ?_ | refine yA ?_ _)); exact BK354.out) hb); replace BK372 := aM (yB (g := gb372) (o := .cells #[.int .i64 t363, .slice Ao26 t364.length co26, .slice Ao27 t367.length co27] 24 (0, 0)) (by (with_reducible repeat (first | refine yN ?_ _ | refine yD ?_ | refine yA ?_ _)); refine yF ?_ NB372_390.out _; (with_reducible repeat (first | refine yN ?_ _ | refine yD ?_ | refine yA ?_ _)); refine yF ?_ NB372_390.out _; (with_reducible repeat (first | refine yN ?_ _ | refine yD ?_ | refine yA ?_ _)); refine yF ?_ NB372_390.out _; (with_reducible repeat (first | refine yN ?_ _ | refine yD ?_ | refine yA ?_ _)); exact BK372.out) hb); replace BK380 := aM (yB (g := gb380) (o := .cells #[.int .i64 t373, .slice Ao34 t374.length co34, .slice Ao35 t377.length co35] 24 (0, 0)) (by (with_reducible repeat (first | refine yN ?_ _ | refine yD ?_ | refine yA ?_ _)); refine yF ?_ NB380_390.out _; (with_reducible repeat (first | refine yN ?_ _ | refine yD ?_ | refine yA ?_ _)); refine yF ?_ NB380_390.out _; (with_reducible repeat (first | refine yN ?_ _ | refine yD ?_ | refine yA ?_ _)); refine yF ?_ NB380_390.out _; (with_reducible repeat (first | refine yN ?_ _ | refine yD ?_ | refine yA ?_ _)); exact BK380.out) hb); replace BK390 := aM (yB (g := gb390) (o := .cells #[.int .i64 t381, .slice Ao42 t382.length co42, .slice Ao43 t385.length co43] 24 (0, 0)) (by (with_reducible repeat (first | refine yN ?_ _ | refine yD ?_ | refine yA ?_ _)); refine yP (cs := #[.int .i64 t381, .slice Ao42 t382.length co42, .slice none 0 0]) ?_ 2 _ rfl; (with_reducible repeat (first | refine yN ?_ _ | refine yD ?_ | refine yA ?_ _)); refine yP (cs := #[.int .i64 t381, .slice none 0 0, .slice none 0 0]) ?_ 1 _ rfl; (with_reducible repeat (first | refine yN ?_ _ | refine yD ?_ | refine yA ?_ _)); refine yP (cs := #[.int .i64 0, .slice none 0 0, .slice none 0 0]) ?_ 0 _ rfl; (with_reducible repeat (first | refine yN ?_ _ | refine yD ?_ | refine yA ?_ _)); exact BK390.out) hb); replace HB := aM (zT (zH HB.out) hb); (try clear hb)))
     go_meet
     case rel => exact ⟨_, ((t389 != t371)), (by first | rfl | (simp; done) | (simp [*]; done)), H', ⟨by first | omega | exact Nat.le_refl _⟩, ⟨xH (xM HO366.out (fun _ hk => ⟨hk.1.1.1.1.1.1, ⟨hk.1.1.1.2, ⟨hk.1.1.2, ⟨hk.1.2, hk.2⟩⟩⟩⟩))⟩, ⟨xH (xM HO369.out (fun _ hk => ⟨hk.1.1.1.1.1.1, ⟨hk.1.1.1.2, ⟨hk.1.1.2, ⟨hk.1.2, hk.2⟩⟩⟩⟩))⟩, ⟨xH (xM HO376.out (fun _ hk => ⟨hk.1.1.1.2, ⟨hk.1.1.2, ⟨hk.1.1.1.1.1.1, ⟨hk.1.2, hk.2⟩⟩⟩⟩))⟩, ⟨xH (xM HO379.out (fun _ hk => ⟨hk.1.1.1.2, ⟨hk.1.1.2, ⟨hk.1.1.1.1.1.1, ⟨hk.1.2, hk.2⟩⟩⟩⟩))⟩, ⟨xH (xM HO384.out (fun _ hk => ⟨hk.1.1.1.2, ⟨hk.1.1.2, ⟨hk.1.2, ⟨hk.2, hk.1.1.1.1.1.1⟩⟩⟩⟩))⟩, ⟨xH (xM HO387.out (fun _ hk => ⟨hk.1.1.1.2, ⟨hk.1.1.2, ⟨hk.1.2, ⟨hk.2, hk.1.1.1.1.1.1⟩⟩⟩⟩))⟩, ⟨yH BK354.out⟩, ⟨yH BK372.out⟩, ⟨yH BK380.out⟩, ⟨yH BK390.out⟩, ⟨zH HB.out⟩⟩
    ·rw [if_neg c46] at H
     have c46b0 : (t388 == t370) = false := beq_eq_false_iff_ne.mpr c46
     have c46b1 : (t388 != t370) = true := bne_iff_ne.mpr c46
     (first | rw [c46b0] | (simp only [i64_w, i32_w]; rw [c46b0]) | skip)
     have H' := aM H
     clear H
     have hnb55 := NB390_354.out
     have hnc55 := NB354_390.out
     have hnb56 := NB390_372.out
     have hnc56 := NB372_390.out
     have hnb57 := NB390_380.out
     have hnc57 := NB380_390.out
     have hcz58_0 : w37.cell? ⟨gb390, 0, none⟩ = some (.int .i64 0) := yc BK390.out 0
     have hcz58_1 : w37.cell? ⟨gb390, 1, none⟩ = some (.slice none 0 0) := yc BK390.out 1
     have hcz58_2 : w37.cell? ⟨gb390, 2, none⟩ = some (.slice none 0 0) := yc BK390.out 2
     have hfz58_0 := yZ BK390.out 0
     have hfz58_1 := yZ BK390.out 1
     have hfz58_2 := yZ BK390.out 2
     have hnb59 := NB372_354.out
     have hnc59 := NB354_372.out
     have hnb60 := NB372_380.out
     have hnc60 := NB380_372.out
     have hcz61_0 : w37.cell? ⟨gb372, 0, none⟩ = some (.int .i64 t363) := yc BK372.out 0
     have hcz61_1 : w37.cell? ⟨gb372, 1, none⟩ = some (.slice Ao26 t364.length co26) := yc BK372.out 1
     have hcz61_2 : w37.cell? ⟨gb372, 2, none⟩ = some (.slice Ao27 t367.length co27) := yc BK372.out 2
     have hfz61_0 := yZ BK372.out 0
     have hfz61_1 := yZ BK372.out 1
     have hfz61_2 := yZ BK372.out 2
     go_wp2_with (first | ((with_reducible refine gate_callee (f := 13) rfl ?_); refine goesL_ (some 51) rfl rfl Try.func13 (by kernel_rfl) rfl #[.agg #[.int .i64 t381, .slice Ao42 t382.length co42, .slice Ao43 t385.length co43], .agg #[.int .i64 t363, .slice Ao26 t364.length co26, .slice Ao27 t367.length co27]] rfl (by (try simp only [List.map_toArray, List.map_cons, List.map_nil]); first | done | rfl | (simp only [List.length_drop, List.length_take]; rfl)) ?_; (with_reducible refine (laws_eqFree.calls k t381 _ _ t382 _ _ t385 t363 _ _ t364 _ _ t367 true _ ?side1 ?side2 ?side3 ?side4 ?side5 ?side6 ?side7 ?side8 A44.out).mono ?_); (case side1 => exact rC (n := t382.length) (c := co42) ((x3 HO384.out BK390.out (by decide) (.int .i64 t381) (.slice Ao42 t382.length co42) (.slice Ao43 t385.length co43)))); (case side2 => exact (Kd.R_reads' HO384.out).2.1); (case side3 => exact rC (n := t385.length) (c := co43) ((x3 HO387.out BK390.out (by decide) (.int .i64 t381) (.slice Ao42 t382.length co42) (.slice Ao43 t385.length co43)))); (case side4 => exact (Kd.R_reads' HO387.out).2.1); (case side5 => exact rC (n := t364.length) (c := co26) ((x3 HO366.out BK390.out (by decide) (.int .i64 t381) (.slice Ao42 t382.length co42) (.slice Ao43 t385.length co43)))); (case side6 => exact (Kd.R_reads' HO366.out).2.1); (case side7 => exact rC (n := t367.length) (c := co27) ((x3 HO369.out BK390.out (by decide) (.int .i64 t381) (.slice Ao42 t382.length co42) (.slice Ao43 t385.length co43)))); (case side8 => exact (Kd.R_reads' HO369.out).2.1); rintro e w62 ⟨rfl, hb⟩; refine ⟨_, rfl, ?_⟩; replace HO359 := aM (xB (xH ((x3 HO359.out BK390.out (by decide) (.int .i64 t381) (.slice Ao42 t382.length co42) (.slice Ao43 t385.length co43)))) hb); replace HO362 := aM (xB (xH ((x3 HO362.out BK390.out (by decide) (.int .i64 t381) (.slice Ao42 t382.length co42) (.slice Ao43 t385.length co43)))) hb); replace HO366 := aM (xB (xH ((x3 HO366.out BK390.out (by decide) (.int .i64 t381) (.slice Ao42 t382.length co42) (.slice Ao43 t385.length co43)))) hb); replace HO369 := aM (xB (xH ((x3 HO369.out BK390.out (by decide) (.int .i64 t381) (.slice Ao42 t382.length co42) (.slice Ao43 t385.length co43)))) hb); replace HO376 := aM (xB (xH ((x3 HO376.out BK390.out (by decide) (.int .i64 t381) (.slice Ao42 t382.length co42) (.slice Ao43 t385.length co43)))) hb); replace HO379 := aM (xB (xH ((x3 HO379.out BK390.out (by decide) (.int .i64 t381) (.slice Ao42 t382.length co42) (.slice Ao43 t385.length co43)))) hb); replace HO384 := aM (xB (xH ((x3 HO384.out BK390.out (by decide) (.int .i64 t381) (.slice Ao42 t382.length co42) (.slice Ao43 t385.length co43)))) hb); replace HO387 := aM (xB (xH ((x3 HO387.out BK390.out (by decide) (.int .i64 t381) (.slice Ao42 t382.length co42) (.slice Ao43 t385.length co43)))) hb); replace BK354 := aM (yB (g := gb354) (o := .cells #[.int .i64 a0_0, .slice A0_1 l0_1.length c0_1, .slice A0_2 l0_2.length c0_2] 32 (0, 0)) (by (with_reducible repeat (first | refine yN ?_ _ | refine yD ?_ | refine yA ?_ _)); refine yF ?_ NB354_390.out _; (with_reducible repeat (first | refine yN ?_ _ | refine yD ?_ | refine yA ?_ _)); refine yF ?_ NB354_390.out _; (with_reducible repeat (first | refine yN ?_ _ | refine yD ?_ | refine yA ?_ _)); refine yF ?_ NB354_390.out _; (with_reducible repeat (first | refine yN ?_ _ | refine yD ?_ | refine yA ?_ _)); exact BK354.out) hb); replace BK372 := aM (yB (g := gb372) (o := .cells #[.int .i64 t363, .slice Ao26 t364.length co26, .slice Ao27 t367.length co27] 24 (0, 0)) (by (with_reducible repeat (first | refine yN ?_ _ | refine yD ?_ | refine yA ?_ _)); refine yF ?_ NB372_390.out _; (with_reducible repeat (first | refine yN ?_ _ | refine yD ?_ | refine yA ?_ _)); refine yF ?_ NB372_390.out _; (with_reducible repeat (first | refine yN ?_ _ | refine yD ?_ | refine yA ?_ _)); refine yF ?_ NB372_390.out _; (with_reducible repeat (first | refine yN ?_ _ | refine yD ?_ | refine yA ?_ _)); exact BK372.out) hb); replace BK380 := aM (yB (g := gb380) (o := .cells #[.int .i64 t373, .slice Ao34 t374.length co34, .slice Ao35 t377.length co35] 24 (0, 0)) (by (with_reducible repeat (first | refine yN ?_ _ | refine yD ?_ | refine yA ?_ _)); refine yF ?_ NB380_390.out _; (with_reducible repeat (first | refine yN ?_ _ | refine yD ?_ | refine yA ?_ _)); refine yF ?_ NB380_390.out _; (with_reducible repeat (first | refine yN ?_ _ | refine yD ?_ | refine yA ?_ _)); refine yF ?_ NB380_390.out _; (with_reducible repeat (first | refine yN ?_ _ | refine yD ?_ | refine yA ?_ _)); exact BK380.out) hb); replace BK390 := aM (yB (g := gb390) (o := .cells #[.int .i64 t381, .slice Ao42 t382.length co42, .slice Ao43 t385.length co43] 24 (0, 0)) (by (with_reducible repeat (first | refine yN ?_ _ | refine yD ?_ | refine yA ?_ _)); refine yP (cs := #[.int .i64 t381, .slice Ao42 t382.length co42, .slice none 0 0]) ?_ 2 _ rfl; (with_reducible repeat (first | refine yN ?_ _ | refine yD ?_ | refine yA ?_ _)); refine yP (cs := #[.int .i64 t381, .slice none 0 0, .slice none 0 0]) ?_ 1 _ rfl; (with_reducible repeat (first | refine yN ?_ _ | refine yD ?_ | refine yA ?_ _)); refine yP (cs := #[.int .i64 0, .slice none 0 0, .slice none 0 0]) ?_ 0 _ rfl; (with_reducible repeat (first | refine yN ?_ _ | refine yD ?_ | refine yA ?_ _)); exact BK390.out) hb); replace HB := aM (zT (zH HB.out) hb); (try clear hb)))
     go_meet
     case rel => exact ⟨_, (true), (by first | rfl | (simp; done) | (simp [*]; done)), H', ⟨by first | omega | exact Nat.le_refl _⟩, ⟨xH (xM HO366.out (fun _ hk => ⟨hk.1.1.1.1.1.1, ⟨hk.1.1.1.2, ⟨hk.1.1.2, ⟨hk.1.2, hk.2⟩⟩⟩⟩))⟩, ⟨xH (xM HO369.out (fun _ hk => ⟨hk.1.1.1.1.1.1, ⟨hk.1.1.1.2, ⟨hk.1.1.2, ⟨hk.1.2, hk.2⟩⟩⟩⟩))⟩, ⟨xH (xM HO376.out (fun _ hk => ⟨hk.1.1.1.2, ⟨hk.1.1.2, ⟨hk.1.1.1.1.1.1, ⟨hk.1.2, hk.2⟩⟩⟩⟩))⟩, ⟨xH (xM HO379.out (fun _ hk => ⟨hk.1.1.1.2, ⟨hk.1.1.2, ⟨hk.1.1.1.1.1.1, ⟨hk.1.2, hk.2⟩⟩⟩⟩))⟩, ⟨xH (xM HO384.out (fun _ hk => ⟨hk.1.1.1.2, ⟨hk.1.1.2, ⟨hk.1.2, ⟨hk.2, hk.1.1.1.1.1.1⟩⟩⟩⟩))⟩, ⟨xH (xM HO387.out (fun _ hk => ⟨hk.1.1.1.2, ⟨hk.1.1.2, ⟨hk.1.2, ⟨hk.2, hk.1.1.1.1.1.1⟩⟩⟩⟩))⟩, ⟨yH BK354.out⟩, ⟨yH BK372.out⟩, ⟨yH BK380.out⟩, ⟨yH BK390.out⟩, ⟨zH HB.out⟩⟩
   ·replace c45 := Bool.eq_false_iff.mpr c45
    subst c45
    have H1 : (laws_FnExactTakeRoom.j0 k a1 a2 a3 t370 t371 t388 t389 true a0_0 l0_1 l0_2 t363 t364 t367 t373 t374 t377 t381 t382 t385) = some r := by rw [if_neg (show ¬ (false = true) by decide)] at H; exact H
    clear H
    have H := H1
    clear H1
    have H' := aM H
    clear H
    have hnb63 := NB390_354.out
    have hnc63 := NB354_390.out
    have hnb64 := NB390_372.out
    have hnc64 := NB372_390.out
    have hnb65 := NB390_380.out
    have hnc65 := NB380_390.out
    have hcz66_0 : w37.cell? ⟨gb390, 0, none⟩ = some (.int .i64 0) := yc BK390.out 0
    have hcz66_1 : w37.cell? ⟨gb390, 1, none⟩ = some (.slice none 0 0) := yc BK390.out 1
    have hcz66_2 : w37.cell? ⟨gb390, 2, none⟩ = some (.slice none 0 0) := yc BK390.out 2
    have hfz66_0 := yZ BK390.out 0
    have hfz66_1 := yZ BK390.out 1
    have hfz66_2 := yZ BK390.out 2
    have hnb67 := NB372_354.out
    have hnc67 := NB354_372.out
    have hnb68 := NB372_380.out
    have hnc68 := NB380_372.out
    have hcz69_0 : w37.cell? ⟨gb372, 0, none⟩ = some (.int .i64 t363) := yc BK372.out 0
    have hcz69_1 : w37.cell? ⟨gb372, 1, none⟩ = some (.slice Ao26 t364.length co26) := yc BK372.out 1
    have hcz69_2 : w37.cell? ⟨gb372, 2, none⟩ = some (.slice Ao27 t367.length co27) := yc BK372.out 2
    have hfz69_0 := yZ BK372.out 0
    have hfz69_1 := yZ BK372.out 1
    have hfz69_2 := yZ BK372.out 2
    go_wp2_with (first | ((with_reducible refine gate_callee (f := 13) rfl ?_); refine goesL_ (some 51) rfl rfl Try.func13 (by kernel_rfl) rfl #[.agg #[.int .i64 t381, .slice Ao42 t382.length co42, .slice Ao43 t385.length co43], .agg #[.int .i64 t363, .slice Ao26 t364.length co26, .slice Ao27 t367.length co27]] rfl (by (try simp only [List.map_toArray, List.map_cons, List.map_nil]); first | done | rfl | (simp only [List.length_drop, List.length_take]; rfl)) ?_; (with_reducible refine (laws_eqFree.calls k t381 _ _ t382 _ _ t385 t363 _ _ t364 _ _ t367 false _ ?side1 ?side2 ?side3 ?side4 ?side5 ?side6 ?side7 ?side8 A44.out).mono ?_); (case side1 => exact rC (n := t382.length) (c := co42) ((x3 HO384.out BK390.out (by decide) (.int .i64 t381) (.slice Ao42 t382.length co42) (.slice Ao43 t385.length co43)))); (case side2 => exact (Kd.R_reads' HO384.out).2.1); (case side3 => exact rC (n := t385.length) (c := co43) ((x3 HO387.out BK390.out (by decide) (.int .i64 t381) (.slice Ao42 t382.length co42) (.slice Ao43 t385.length co43)))); (case side4 => exact (Kd.R_reads' HO387.out).2.1); (case side5 => exact rC (n := t364.length) (c := co26) ((x3 HO366.out BK390.out (by decide) (.int .i64 t381) (.slice Ao42 t382.length co42) (.slice Ao43 t385.length co43)))); (case side6 => exact (Kd.R_reads' HO366.out).2.1); (case side7 => exact rC (n := t367.length) (c := co27) ((x3 HO369.out BK390.out (by decide) (.int .i64 t381) (.slice Ao42 t382.length co42) (.slice Ao43 t385.length co43)))); (case side8 => exact (Kd.R_reads' HO369.out).2.1); rintro e w70 ⟨rfl, hb⟩; refine ⟨_, rfl, ?_⟩; replace HO359 := aM (xB (xH ((x3 HO359.out BK390.out (by decide) (.int .i64 t381) (.slice Ao42 t382.length co42) (.slice Ao43 t385.length co43)))) hb); replace HO362 := aM (xB (xH ((x3 HO362.out BK390.out (by decide) (.int .i64 t381) (.slice Ao42 t382.length co42) (.slice Ao43 t385.length co43)))) hb); replace HO366 := aM (xB (xH ((x3 HO366.out BK390.out (by decide) (.int .i64 t381) (.slice Ao42 t382.length co42) (.slice Ao43 t385.length co43)))) hb); replace HO369 := aM (xB (xH ((x3 HO369.out BK390.out (by decide) (.int .i64 t381) (.slice Ao42 t382.length co42) (.slice Ao43 t385.length co43)))) hb); replace HO376 := aM (xB (xH ((x3 HO376.out BK390.out (by decide) (.int .i64 t381) (.slice Ao42 t382.length co42) (.slice Ao43 t385.length co43)))) hb); replace HO379 := aM (xB (xH ((x3 HO379.out BK390.out (by decide) (.int .i64 t381) (.slice Ao42 t382.length co42) (.slice Ao43 t385.length co43)))) hb); replace HO384 := aM (xB (xH ((x3 HO384.out BK390.out (by decide) (.int .i64 t381) (.slice Ao42 t382.length co42) (.slice Ao43 t385.length co43)))) hb); replace HO387 := aM (xB (xH ((x3 HO387.out BK390.out (by decide) (.int .i64 t381) (.slice Ao42 t382.length co42) (.slice Ao43 t385.length co43)))) hb); replace BK354 := aM (yB (g := gb354) (o := .cells #[.int .i64 a0_0, .slice A0_1 l0_1.length c0_1, .slice A0_2 l0_2.length c0_2] 32 (0, 0)) (by (with_reducible repeat (first | refine yN ?_ _ | refine yD ?_ | refine yA ?_ _)); refine yF ?_ NB354_390.out _; (with_reducible repeat (first | refine yN ?_ _ | refine yD ?_ | refine yA ?_ _)); refine yF ?_ NB354_390.out _; (with_reducible repeat (first | refine yN ?_ _ | refine yD ?_ | refine yA ?_ _)); refine yF ?_ NB354_390.out _; (with_reducible repeat (first | refine yN ?_ _ | refine yD ?_ | refine yA ?_ _)); exact BK354.out) hb); replace BK372 := aM (yB (g := gb372) (o := .cells #[.int .i64 t363, .slice Ao26 t364.length co26, .slice Ao27 t367.length co27] 24 (0, 0)) (by (with_reducible repeat (first | refine yN ?_ _ | refine yD ?_ | refine yA ?_ _)); refine yF ?_ NB372_390.out _; (with_reducible repeat (first | refine yN ?_ _ | refine yD ?_ | refine yA ?_ _)); refine yF ?_ NB372_390.out _; (with_reducible repeat (first | refine yN ?_ _ | refine yD ?_ | refine yA ?_ _)); refine yF ?_ NB372_390.out _; (with_reducible repeat (first | refine yN ?_ _ | refine yD ?_ | refine yA ?_ _)); exact BK372.out) hb); replace BK380 := aM (yB (g := gb380) (o := .cells #[.int .i64 t373, .slice Ao34 t374.length co34, .slice Ao35 t377.length co35] 24 (0, 0)) (by (with_reducible repeat (first | refine yN ?_ _ | refine yD ?_ | refine yA ?_ _)); refine yF ?_ NB380_390.out _; (with_reducible repeat (first | refine yN ?_ _ | refine yD ?_ | refine yA ?_ _)); refine yF ?_ NB380_390.out _; (with_reducible repeat (first | refine yN ?_ _ | refine yD ?_ | refine yA ?_ _)); refine yF ?_ NB380_390.out _; (with_reducible repeat (first | refine yN ?_ _ | refine yD ?_ | refine yA ?_ _)); exact BK380.out) hb); replace BK390 := aM (yB (g := gb390) (o := .cells #[.int .i64 t381, .slice Ao42 t382.length co42, .slice Ao43 t385.length co43] 24 (0, 0)) (by (with_reducible repeat (first | refine yN ?_ _ | refine yD ?_ | refine yA ?_ _)); refine yP (cs := #[.int .i64 t381, .slice Ao42 t382.length co42, .slice none 0 0]) ?_ 2 _ rfl; (with_reducible repeat (first | refine yN ?_ _ | refine yD ?_ | refine yA ?_ _)); refine yP (cs := #[.int .i64 t381, .slice none 0 0, .slice none 0 0]) ?_ 1 _ rfl; (with_reducible repeat (first | refine yN ?_ _ | refine yD ?_ | refine yA ?_ _)); refine yP (cs := #[.int .i64 0, .slice none 0 0, .slice none 0 0]) ?_ 0 _ rfl; (with_reducible repeat (first | refine yN ?_ _ | refine yD ?_ | refine yA ?_ _)); exact BK390.out) hb); replace HB := aM (zT (zH HB.out) hb); (try clear hb)))
    go_meet
    case rel => exact ⟨_, (true), (by first | rfl | (simp; done) | (simp [*]; done)), H', ⟨by first | omega | exact Nat.le_refl _⟩, ⟨xH (xM HO366.out (fun _ hk => ⟨hk.1.1.1.1.1.1, ⟨hk.1.1.1.2, ⟨hk.1.1.2, ⟨hk.1.2, hk.2⟩⟩⟩⟩))⟩, ⟨xH (xM HO369.out (fun _ hk => ⟨hk.1.1.1.1.1.1, ⟨hk.1.1.1.2, ⟨hk.1.1.2, ⟨hk.1.2, hk.2⟩⟩⟩⟩))⟩, ⟨xH (xM HO376.out (fun _ hk => ⟨hk.1.1.1.2, ⟨hk.1.1.2, ⟨hk.1.1.1.1.1.1, ⟨hk.1.2, hk.2⟩⟩⟩⟩))⟩, ⟨xH (xM HO379.out (fun _ hk => ⟨hk.1.1.1.2, ⟨hk.1.1.2, ⟨hk.1.1.1.1.1.1, ⟨hk.1.2, hk.2⟩⟩⟩⟩))⟩, ⟨xH (xM HO384.out (fun _ hk => ⟨hk.1.1.1.2, ⟨hk.1.1.2, ⟨hk.1.2, ⟨hk.2, hk.1.1.1.1.1.1⟩⟩⟩⟩))⟩, ⟨xH (xM HO387.out (fun _ hk => ⟨hk.1.1.1.2, ⟨hk.1.1.2, ⟨hk.1.2, ⟨hk.2, hk.1.1.1.1.1.1⟩⟩⟩⟩))⟩, ⟨yH BK354.out⟩, ⟨yH BK372.out⟩, ⟨yH BK380.out⟩, ⟨yH BK390.out⟩, ⟨zH HB.out⟩⟩
  case rest =>
   clear HC14
   (try clear c1); (try clear c2); (try clear p2); (try clear c3); (try clear c4); (try clear c5); (try clear c6); (try clear c6b0); (try clear c10); (try clear c13); (try clear c16); (try clear c18); (try clear c24); (try clear c31); (try clear c32); (try clear c34); (try clear c35); (try clear c38); (try clear c39); (try clear c40); (try clear c45); (try clear c46); (try clear c46b0); (try clear c46b1); (try clear c47); (try clear c48); (try clear c49); (try clear c51); (try clear c52); (try clear c55); (try clear c56); (try clear c57); (try clear c59); (try clear c60); (try clear c63); (try clear c64); (try clear c65); (try clear c67); (try clear c68); (try clear hcz16_0); (try clear hcz16_1); (try clear hcz16_2); (try clear hcz18_0); (try clear hcz18_1); (try clear hcz18_2); (try clear hcz25_0); (try clear hcz25_1); (try clear hcz25_2); (try clear hcz28_0); (try clear hcz28_1); (try clear hcz28_2); (try clear hcz33_0); (try clear hcz33_1); (try clear hcz33_2); (try clear hcz41_0); (try clear hcz41_1); (try clear hcz41_2); (try clear hcz50_0); (try clear hcz50_1); (try clear hcz50_2); (try clear hcz53_0); (try clear hcz53_1); (try clear hcz53_2); (try clear hcz58_0); (try clear hcz58_1); (try clear hcz58_2); (try clear hcz61_0); (try clear hcz61_1); (try clear hcz61_2); (try clear hcz66_0); (try clear hcz66_1); (try clear hcz66_2); (try clear hcz69_0); (try clear hcz69_1); (try clear hcz69_2); (try clear hcz8_0); (try clear hcz8_1); (try clear hcz8_2); (try clear hfz16_0); (try clear hfz16_1); (try clear hfz16_2); (try clear hfz18_0); (try clear hfz18_1); (try clear hfz18_2); (try clear hfz25_0); (try clear hfz25_1); (try clear hfz25_2); (try clear hfz28_0); (try clear hfz28_1); (try clear hfz28_2); (try clear hfz33_0); (try clear hfz33_1); (try clear hfz33_2); (try clear hfz41_0); (try clear hfz41_1); (try clear hfz41_2); (try clear hfz50_0); (try clear hfz50_1); (try clear hfz50_2); (try clear hfz53_0); (try clear hfz53_1); (try clear hfz53_2); (try clear hfz58_0); (try clear hfz58_1); (try clear hfz58_2); (try clear hfz61_0); (try clear hfz61_1); (try clear hfz61_2); (try clear hfz66_0); (try clear hfz66_1); (try clear hfz66_2); (try clear hfz69_0); (try clear hfz69_1); (try clear hfz69_2); (try clear hfz8_0); (try clear hfz8_1); (try clear hfz8_2)
   obtain ⟨kq, x62_13, rfl, HA, HJ13, p0', p1', p2', p3', p4', p5', BK354, BK372, BK380, BK390, HB⟩ := hcut
   cases kq with
   | zero => exact absurd HA.out (fun h_ => by change none = some _ at h_; cases h_)
   | succ kj13 =>
    have H := HA.out
    clear HA
    simp only [laws_FnExactTakeRoom.j0] at H
    by_cases c71 : x62_13 = true
    ·subst c71
     have H1 : (some false) = some r := by rw [if_pos rfl] at H; exact H
     clear H
     have H := H1
     clear H1
     exact absurd (H.trans (congrArg some HR_.out)) (by decide)
    ·replace c71 := Bool.eq_false_iff.mpr c71
     subst c71
     have H1 : ((laws_toFree.f kj13 a0_0 l0_1 l0_2).bind fun bt392 => ((laws_eqFree.f kj13 t373 t374 t377 bt392.1 bt392.2.1 bt392.2.2).bind fun t399 => (if t399 = true then ((laws_markFree.f kj13 t373 t374 t377 1).bind fun bt400 => (if bt400.1 < 0 then (laws_FnExactTakeRoom.j1 kj13 a1 a2 a3 t370 t371 true a0_0 l0_1 l0_2 t363 t364 t367 t381 t382 t385) else ((laws_eqFree.f kj13 t381 t382 t385 t363 t364 t367).bind fun t403 => (if t403 = true then (if t388 = t370 then (laws_FnExactTakeRoom.j1 kj13 a1 a2 a3 t370 t371 (t389 != t371) a0_0 l0_1 l0_2 t363 t364 t367 t381 t382 t385) else (laws_FnExactTakeRoom.j1 kj13 a1 a2 a3 t370 t371 true a0_0 l0_1 l0_2 t363 t364 t367 t381 t382 t385)) else (laws_FnExactTakeRoom.j1 kj13 a1 a2 a3 t370 t371 true a0_0 l0_1 l0_2 t363 t364 t367 t381 t382 t385))))) else (some false)))) = some r := by rw [if_neg (show ¬ (false = true) by decide)] at H; exact H
     clear H
     have H := H1
     clear H1
     replace H := Option.bind_eq_some_iff.mp H
     obtain ⟨⟨t392, t393, t396⟩, A720, H⟩ := H
     replace H : ((laws_eqFree.f kj13 t373 t374 t377 t392 t393 t396).bind fun t399 => (if t399 = true then ((laws_markFree.f kj13 t373 t374 t377 1).bind fun bt400 => (if bt400.1 < 0 then (laws_FnExactTakeRoom.j1 kj13 a1 a2 a3 t370 t371 true a0_0 l0_1 l0_2 t363 t364 t367 t381 t382 t385) else ((laws_eqFree.f kj13 t381 t382 t385 t363 t364 t367).bind fun t403 => (if t403 = true then (if t388 = t370 then (laws_FnExactTakeRoom.j1 kj13 a1 a2 a3 t370 t371 (t389 != t371) a0_0 l0_1 l0_2 t363 t364 t367 t381 t382 t385) else (laws_FnExactTakeRoom.j1 kj13 a1 a2 a3 t370 t371 true a0_0 l0_1 l0_2 t363 t364 t367 t381 t382 t385)) else (laws_FnExactTakeRoom.j1 kj13 a1 a2 a3 t370 t371 true a0_0 l0_1 l0_2 t363 t364 t367 t381 t382 t385))))) else (some false))) = some r := H
     have A72 := aM A720
     clear A720
     replace H := Option.bind_eq_some_iff.mp H
     obtain ⟨t399, A730, H⟩ := H
     replace H : (if t399 = true then ((laws_markFree.f kj13 t373 t374 t377 1).bind fun bt400 => (if bt400.1 < 0 then (laws_FnExactTakeRoom.j1 kj13 a1 a2 a3 t370 t371 true a0_0 l0_1 l0_2 t363 t364 t367 t381 t382 t385) else ((laws_eqFree.f kj13 t381 t382 t385 t363 t364 t367).bind fun t403 => (if t403 = true then (if t388 = t370 then (laws_FnExactTakeRoom.j1 kj13 a1 a2 a3 t370 t371 (t389 != t371) a0_0 l0_1 l0_2 t363 t364 t367 t381 t382 t385) else (laws_FnExactTakeRoom.j1 kj13 a1 a2 a3 t370 t371 true a0_0 l0_1 l0_2 t363 t364 t367 t381 t382 t385)) else (laws_FnExactTakeRoom.j1 kj13 a1 a2 a3 t370 t371 true a0_0 l0_1 l0_2 t363 t364 t367 t381 t382 t385))))) else (some false)) = some r := H
     have A73 := aM A730
     clear A730
     by_cases c74 : t399 = true
     ·subst c74
      have H1 : ((laws_markFree.f kj13 t373 t374 t377 1).bind fun bt400 => (if bt400.1 < 0 then (laws_FnExactTakeRoom.j1 kj13 a1 a2 a3 t370 t371 true a0_0 l0_1 l0_2 t363 t364 t367 t381 t382 t385) else ((laws_eqFree.f kj13 t381 t382 t385 t363 t364 t367).bind fun t403 => (if t403 = true then (if t388 = t370 then (laws_FnExactTakeRoom.j1 kj13 a1 a2 a3 t370 t371 (t389 != t371) a0_0 l0_1 l0_2 t363 t364 t367 t381 t382 t385) else (laws_FnExactTakeRoom.j1 kj13 a1 a2 a3 t370 t371 true a0_0 l0_1 l0_2 t363 t364 t367 t381 t382 t385)) else (laws_FnExactTakeRoom.j1 kj13 a1 a2 a3 t370 t371 true a0_0 l0_1 l0_2 t363 t364 t367 t381 t382 t385))))) = some r := by rw [if_pos rfl] at H; exact H
      clear H
      have H := H1
      clear H1
      replace H := Option.bind_eq_some_iff.mp H
      obtain ⟨⟨t400, t401, t402⟩, A750, H⟩ := H
      replace H : (if t400 < 0 then (laws_FnExactTakeRoom.j1 kj13 a1 a2 a3 t370 t371 true a0_0 l0_1 l0_2 t363 t364 t367 t381 t382 t385) else ((laws_eqFree.f kj13 t381 t382 t385 t363 t364 t367).bind fun t403 => (if t403 = true then (if t388 = t370 then (laws_FnExactTakeRoom.j1 kj13 a1 a2 a3 t370 t371 (t389 != t371) a0_0 l0_1 l0_2 t363 t364 t367 t381 t382 t385) else (laws_FnExactTakeRoom.j1 kj13 a1 a2 a3 t370 t371 true a0_0 l0_1 l0_2 t363 t364 t367 t381 t382 t385)) else (laws_FnExactTakeRoom.j1 kj13 a1 a2 a3 t370 t371 true a0_0 l0_1 l0_2 t363 t364 t367 t381 t382 t385)))) = some r := H
      have A75 := aM A750
      clear A750
      have HC76 := aM H
      clear H
      try go_wp2
      replace p0' := aM (xD p0'.out)
      replace p1' := aM (xD p1'.out)
      replace p2' := aM (xD p2'.out)
      replace p3' := aM (xD p3'.out)
      replace p4' := aM (xD p4'.out)
      replace p5' := aM (xD p5'.out)
      replace BK354 := aM (yD BK354.out)
      replace BK372 := aM (yD BK372.out)
      replace BK380 := aM (yD BK380.out)
      replace BK390 := aM (yD BK390.out)
      replace HB := aM (zD HB.out)
      refine start_ (n := 5) (S := fun w' => w'.cell? ⟨gb380, 0, none⟩ = some (.int .i64 t373) ∧ w'.cell? ⟨gb380, 1, none⟩ = some (.slice Ao34 t374.length co34) ∧ w'.cell? ⟨gb380, 2, none⟩ = some (.slice Ao35 t377.length co35) ∧ w'.cell? ⟨gb354, 0, none⟩ = some (.int .i64 a0_0) ∧ w'.cell? ⟨gb354, 1, none⟩ = some (.slice A0_1 l0_1.length c0_1) ∧ w'.cell? ⟨gb354, 2, none⟩ = some (.slice A0_2 l0_2.length c0_2)) (ds := []) #[fF,fF,fF,fF,fF] (by kernel_rfl) rfl rfl ⟨yc BK380.out 0, yc BK380.out 1, yc BK380.out 2, yc BK354.out 0, yc BK354.out 1, yc BK354.out 2⟩ (fun hHeld => ?_)
      generalize wc.drew = w77 at p0' p1' p2' p3' p4' p5' BK354 BK372 BK380 BK390 HB hHeld ⊢
      refine take_ (i := 0) (N := some 63) (v := ?_) (a' := ?_) #[tT,fF,fF,fF,fF] rfl rfl (by kernel_rfl) (fun _ _ _ h => h) (Or.inl ⟨by rfl, ?_⟩) hHeld ?_ ?_
      rotate_left
      ·rintro w' ⟨s0, s1, s2, s3, s4, s5⟩
       go_simp
       with_reducible rfl
      rotate_left
      ·simp only [Act.put, qA, qB, qC, i64_w, i32_w]
       rfl
      refine take_ (i := 1) (N := some 64) (v := ?_) (a' := ?_) #[tT,tT,fF,fF,fF] rfl rfl (by kernel_rfl) (fun _ _ _ h => h) (Or.inl ⟨by rfl, ?_⟩) hHeld ?_ ?_
      rotate_left
      ·rintro w' ⟨s0, s1, s2, s3, s4, s5⟩
       go_simp
       with_reducible rfl
      rotate_left
      ·simp only [Act.put, qA, qB, qC, i64_w, i32_w]
       rfl
      refine one_ (i := 2) (N := some 65) #[tT,tT,tT,fF,fF] rfl rfl (by kernel_rfl) (by decide) (fun K hK => ?_)
      refine gS Try.func18 (by kernel_rfl) rfl #[.agg #[.int .i64 a0_0, .slice A0_1 l0_1.length c0_1, .slice A0_2 l0_2.length c0_2]] (by rfl) rfl rfl ?_
      with_reducible refine (laws_toFree.calls kj13 a0_0 _ _ l0_1 _ _ l0_2 t392 t393 t396 _ ?side1 ?side2 ?side3 ?side4 A72.out).mono ?_
      (case side1 => exact cK HR0_1.out HB.out)
      (case side2 => exact HC0_1.out)
      (case side3 => exact cK HR0_2.out HB.out)
      (case side4 => exact HC0_2.out)
      rintro e w78 ⟨v394, v397, rfl, ho0, ho1, hb⟩
      refine ⟨_, rfl, ?_⟩
      have HO395 := aM (xL (Kd.R_new' (Kd.R_new' (Kd.R_new' (Kd.R_new' (Kd.R_new' (Kd.R_new' ho0 (Kd.R_lt (xH p0'.out))) (Kd.R_lt (xH p1'.out))) (Kd.R_lt (xH p2'.out))) (Kd.R_lt (xH p3'.out))) (Kd.R_lt (xH p4'.out))) (Kd.R_lt (xH p5'.out))) (zZ (zH HB.out)))
      have HO398 := aM (xL (Kd.R_new' (Kd.R_new' (Kd.R_new' (Kd.R_new' (Kd.R_new' (Kd.R_new' ho1 (Kd.R_lt (xH p0'.out))) (Kd.R_lt (xH p1'.out))) (Kd.R_lt (xH p2'.out))) (Kd.R_lt (xH p3'.out))) (Kd.R_lt (xH p4'.out))) (Kd.R_lt (xH p5'.out))) (zZ (zH HB.out)))
      replace p0' := aM (xM (Kd.R_told (Kd.R_told (Kd.R_old (xH p0'.out) hb) (Kd.R_base ho0)) (Kd.R_base ho1)) (fun _ h_ => h_.1))
      replace p1' := aM (xM (Kd.R_told (Kd.R_told (Kd.R_old (xH p1'.out) hb) (Kd.R_base ho0)) (Kd.R_base ho1)) (fun _ h_ => h_.1))
      replace p2' := aM (xM (Kd.R_told (Kd.R_told (Kd.R_old (xH p2'.out) hb) (Kd.R_base ho0)) (Kd.R_base ho1)) (fun _ h_ => h_.1))
      replace p3' := aM (xM (Kd.R_told (Kd.R_told (Kd.R_old (xH p3'.out) hb) (Kd.R_base ho0)) (Kd.R_base ho1)) (fun _ h_ => h_.1))
      replace p4' := aM (xM (Kd.R_told (Kd.R_told (Kd.R_old (xH p4'.out) hb) (Kd.R_base ho0)) (Kd.R_base ho1)) (fun _ h_ => h_.1))
      replace p5' := aM (xM (Kd.R_told (Kd.R_told (Kd.R_old (xH p5'.out) hb) (Kd.R_base ho0)) (Kd.R_base ho1)) (fun _ h_ => h_.1))
      replace BK354 := yK BK354.out hb
      replace BK372 := yK BK372.out hb
      replace BK380 := yK BK380.out hb
      replace BK390 := yK BK390.out hb
      replace HB := aM (zT (zH HB.out) hb)
      (try clear hb); (try clear ho0); (try clear ho1)
      obtain ⟨Ao79, co79, eo79⟩ := Kd.R_slice HO395.out
      (first | subst eo79 | obtain ⟨rfl, rfl⟩ := eI eo79)
      obtain ⟨Ao80, co80, eo80⟩ := Kd.R_slice HO398.out
      (first | subst eo80 | obtain ⟨rfl, rfl⟩ := eI eo80)
      refine hK.out _ _ ⟨yc BK380.out 0, yc BK380.out 1, yc BK380.out 2, yc BK354.out 0, yc BK354.out 1, yc BK354.out 2⟩ (fun hHeld => ?_)
      clear hK K
      refine norm_ (a' := ?_) ?_ ?_
      rotate_left
      ·show Act.put _ (some 65) _ = _
       simp only [Act.put, qA, qB, qC, i64_w, i32_w]
       rfl
      refine one_ (i := 3) (N := some 66) #[tT,tT,tT,tT,fF] rfl rfl (by kernel_rfl) (by decide) (fun K hK => ?_)
      refine gS Try.func13 (by kernel_rfl) rfl #[.agg #[.int .i64 t373, .slice Ao34 t374.length co34, .slice Ao35 t377.length co35], .agg #[.int .i64 t392, .slice Ao79 t393.length co79, .slice Ao80 t396.length co80]] (by rfl) rfl rfl ?_
      with_reducible refine (laws_eqFree.calls kj13 t373 _ _ t374 _ _ t377 t392 _ _ t393 _ _ t396 true _ ?side1 ?side2 ?side3 ?side4 ?side5 ?side6 ?side7 ?side8 A73.out).mono ?_
      (case side1 => repeat (first | exact (Kd.R_reads' p2'.out).2.2 | (with_reducible refine cA ?_ _) | (with_reducible refine cN ?_ _) | (with_reducible refine cD ?_)))
      (case side2 => exact (Kd.R_reads' p2'.out).2.1)
      (case side3 => repeat (first | exact (Kd.R_reads' p3'.out).2.2 | (with_reducible refine cA ?_ _) | (with_reducible refine cN ?_ _) | (with_reducible refine cD ?_)))
      (case side4 => exact (Kd.R_reads' p3'.out).2.1)
      (case side5 => repeat (first | exact (Kd.R_reads' HO395.out).2.2 | (with_reducible refine cA ?_ _) | (with_reducible refine cN ?_ _) | (with_reducible refine cD ?_)))
      (case side6 => exact (Kd.R_reads' HO395.out).2.1)
      (case side7 => repeat (first | exact (Kd.R_reads' HO398.out).2.2 | (with_reducible refine cA ?_ _) | (with_reducible refine cN ?_ _) | (with_reducible refine cD ?_)))
      (case side8 => exact (Kd.R_reads' HO398.out).2.1)
      rintro e w81 ⟨rfl, hb⟩
      refine ⟨_, rfl, ?_⟩
      replace p0' := xK p0'.out hb
      replace p1' := xK p1'.out hb
      replace p2' := xK p2'.out hb
      replace p3' := xK p3'.out hb
      replace p4' := xK p4'.out hb
      replace p5' := xK p5'.out hb
      replace HO395 := xK HO395.out hb
      replace HO398 := xK HO398.out hb
      replace BK354 := yK BK354.out hb
      replace BK372 := yK BK372.out hb
      replace BK380 := yK BK380.out hb
      replace BK390 := yK BK390.out hb
      replace HB := aM (zT (zH HB.out) hb)
      (try clear hb)
      refine hK.out _ _ ⟨yc BK380.out 0, yc BK380.out 1, yc BK380.out 2, yc BK354.out 0, yc BK354.out 1, yc BK354.out 2⟩ (fun hHeld => ?_)
      clear hK K
      refine norm_ (a' := ?_) ?_ ?_
      rotate_left
      ·show Act.put _ (some 66) _ = _
       simp only [Act.put, qA, qB, qC, i64_w, i32_w]
       rfl
      refine pure_ (i := 4) (N := some 67) (v := ?_) (a' := ?_) #[tT,tT,tT,tT,tT] rfl rfl (by kernel_rfl) (fun _ _ _ h => h) (Or.inl ⟨by rfl, ?_⟩) ?_ ?_
      rotate_left
      ·intro w'
       go_simp
       with_reducible rfl
      rotate_left
      ·simp only [Act.put, qA, qB, qC, i64_w, i32_w]
       rfl
      refine done_ (by kernel_rfl) ?_
      have hnb82 := NB380_354.out
      have hnc82 := NB354_380.out
      have hnb83 := NB380_372.out
      have hnc83 := NB372_380.out
      have hnb84 := NB380_390.out
      have hnc84 := NB390_380.out
      have hcz85_0 : w81.cell? ⟨gb380, 0, none⟩ = some (.int .i64 t373) := yc BK380.out 0
      have hcz85_1 : w81.cell? ⟨gb380, 1, none⟩ = some (.slice Ao34 t374.length co34) := yc BK380.out 1
      have hcz85_2 : w81.cell? ⟨gb380, 2, none⟩ = some (.slice Ao35 t377.length co35) := yc BK380.out 2
      have hfz85_0 := yZ BK380.out 0
      have hfz85_1 := yZ BK380.out 1
      have hfz85_2 := yZ BK380.out 2
      go_upto_region 14 with (first | ((with_reducible refine gate_callee (f := 14) rfl ?_); refine goesL_ (some 70) rfl rfl Try.func14 (by kernel_rfl) rfl #[.agg #[.int .i64 t373, .slice Ao34 t374.length co34, .slice Ao35 t377.length co35], .int .i64 1] rfl (by (try simp only [List.map_toArray, List.map_cons, List.map_nil]); first | done | rfl | (simp only [List.length_drop, List.length_take]; rfl)) ?_; (with_reducible refine (laws_markFree.calls kj13 t373 (fun k_ => some k_ = oB Ao34 t374.length co34) (.slice Ao34 t374.length co34) t374 (fun k_ => some k_ = oB Ao35 t377.length co35) (.slice Ao35 t377.length co35) t377 1 t400 t401 t402 w _ ?side1 ?side2 ?side3 ?side4 ?side5 A75.out).mono ?_); (case side1 => repeat (first | (with_reducible first | exact HB.out | apply zA | apply zN | apply zD | refine zS ?_ GE354.out | refine zS ?_ GE372.out | refine zS ?_ GE380.out | refine zS ?_ GE390.out) | exact HB.out)); (case side2 => exact Kd.R_tight rfl p2'.out); (case side3 => exact fun k_ e_ => (p2'.out.1 k_ e_.symm).1.1.2.2.1); (case side4 => exact Kd.R_tight rfl p3'.out); (case side5 => exact fun k_ e_ => (p3'.out.1 k_ e_.symm).1.1.2.2.1); rintro e w86 ⟨rfl, hy0, hy1, hb, hkp⟩; refine ⟨_, rfl, ?_⟩; replace p0' := aM (xM (ok' := fun k_ => some k_ ≠ oB Ao27 t367.length co27 ∧ some k_ ≠ oB Ao34 t374.length co34 ∧ some k_ ≠ oB Ao35 t377.length co35 ∧ some k_ ≠ oB Ao42 t382.length co42 ∧ some k_ ≠ oB Ao43 t385.length co43 ∧ some k_ ≠ oB Ao79 t393.length co79 ∧ some k_ ≠ oB Ao80 t396.length co80) (Kd.R_keptB (p0'.out) hkp (fun k_ hk_ hs_ => Or.elim hs_ (fun e_ => (hk_.1.1.2.1) e_) (fun e_ => (hk_.1.1.2.2.1) e_))) (fun k_ hk_ => ⟨hk_.1.1.1.1, hk_.1.1.1.2.1, hk_.1.1.1.2.2.1, hk_.1.1.1.2.2.2.1, hk_.1.1.1.2.2.2.2, hk_.1.1.2, hk_.1.2⟩)); replace p1' := aM (xM (ok' := fun k_ => some k_ ≠ oB Ao26 t364.length co26 ∧ some k_ ≠ oB Ao34 t374.length co34 ∧ some k_ ≠ oB Ao35 t377.length co35 ∧ some k_ ≠ oB Ao42 t382.length co42 ∧ some k_ ≠ oB Ao43 t385.length co43 ∧ some k_ ≠ oB Ao79 t393.length co79 ∧ some k_ ≠ oB Ao80 t396.length co80) (Kd.R_keptB (p1'.out) hkp (fun k_ hk_ hs_ => Or.elim hs_ (fun e_ => (hk_.1.1.2.1) e_) (fun e_ => (hk_.1.1.2.2.1) e_))) (fun k_ hk_ => ⟨hk_.1.1.1.1, hk_.1.1.1.2.1, hk_.1.1.1.2.2.1, hk_.1.1.1.2.2.2.1, hk_.1.1.1.2.2.2.2, hk_.1.1.2, hk_.1.2⟩)); replace p4' := aM (xM (ok' := fun k_ => some k_ ≠ oB Ao26 t364.length co26 ∧ some k_ ≠ oB Ao27 t367.length co27 ∧ some k_ ≠ oB Ao34 t374.length co34 ∧ some k_ ≠ oB Ao35 t377.length co35 ∧ some k_ ≠ oB Ao43 t385.length co43 ∧ some k_ ≠ oB Ao79 t393.length co79 ∧ some k_ ≠ oB Ao80 t396.length co80) (Kd.R_keptB (p4'.out) hkp (fun k_ hk_ hs_ => Or.elim hs_ (fun e_ => (hk_.1.1.2.2.1) e_) (fun e_ => (hk_.1.1.2.2.2.1) e_))) (fun k_ hk_ => ⟨hk_.1.1.1.1, hk_.1.1.1.2.1, hk_.1.1.1.2.2.1, hk_.1.1.1.2.2.2.1, hk_.1.1.1.2.2.2.2, hk_.1.1.2, hk_.1.2⟩)); replace p5' := aM (xM (ok' := fun k_ => some k_ ≠ oB Ao26 t364.length co26 ∧ some k_ ≠ oB Ao27 t367.length co27 ∧ some k_ ≠ oB Ao34 t374.length co34 ∧ some k_ ≠ oB Ao35 t377.length co35 ∧ some k_ ≠ oB Ao42 t382.length co42 ∧ some k_ ≠ oB Ao79 t393.length co79 ∧ some k_ ≠ oB Ao80 t396.length co80) (Kd.R_keptB (p5'.out) hkp (fun k_ hk_ hs_ => Or.elim hs_ (fun e_ => (hk_.1.1.2.2.1) e_) (fun e_ => (hk_.1.1.2.2.2.1) e_))) (fun k_ hk_ => ⟨hk_.1.1.1.1, hk_.1.1.1.2.1, hk_.1.1.1.2.2.1, hk_.1.1.1.2.2.2.1, hk_.1.1.1.2.2.2.2, hk_.1.1.2, hk_.1.2⟩)); replace BK354 := aM (blk_kept BK354.out hkp (fun hs_ => Or.elim hs_ (fun e_ => (fun e_ => (Kd.R_ne p2'.out BK354.out (by decide)) e_) e_) (fun e_ => (fun e_ => (Kd.R_ne p3'.out BK354.out (by decide)) e_) e_))); replace BK372 := aM (blk_kept BK372.out hkp (fun hs_ => Or.elim hs_ (fun e_ => (fun e_ => (Kd.R_ne p2'.out BK372.out (by decide)) e_) e_) (fun e_ => (fun e_ => (Kd.R_ne p3'.out BK372.out (by decide)) e_) e_))); replace BK380 := aM (blk_kept BK380.out hkp (fun hs_ => Or.elim hs_ (fun e_ => (fun e_ => (Kd.R_ne p2'.out BK380.out (by decide)) e_) e_) (fun e_ => (fun e_ => (Kd.R_ne p3'.out BK380.out (by decide)) e_) e_))); replace BK390 := aM (blk_kept BK390.out hkp (fun hs_ => Or.elim hs_ (fun e_ => (fun e_ => (Kd.R_ne p2'.out BK390.out (by decide)) e_) e_) (fun e_ => (fun e_ => (Kd.R_ne p3'.out BK390.out (by decide)) e_) e_))); replace p2' := aM (Kd.R_reok rfl hy0 (fun k_ e_ => p2'.out.1 k_ e_)); replace p3' := aM (Kd.R_reok rfl hy1 (fun k_ e_ => p3'.out.1 k_ e_)); replace HO395 := aM (xM (ok' := fun k_ => some k_ ≠ oB Ao26 t364.length co26 ∧ some k_ ≠ oB Ao27 t367.length co27 ∧ some k_ ≠ oB Ao34 t374.length co34 ∧ some k_ ≠ oB Ao35 t377.length co35 ∧ some k_ ≠ oB Ao42 t382.length co42 ∧ some k_ ≠ oB Ao43 t385.length co43 ∧ some k_ ≠ oB Ao80 t396.length co80) (Kd.R_keptB (HO395.out) hkp (fun k_ hk_ hs_ => Or.elim hs_ (fun e_ => (hk_.1.1.1.2) e_) (fun e_ => (hk_.1.1.2) e_))) (fun k_ hk_ => ⟨hk_.1.1.1.1.1.1.2, hk_.1.1.1.1.1.2, hk_.1.1.1.1.2, hk_.1.1.1.2, hk_.1.1.2, hk_.1.2, hk_.1.1.1.1.1.1.1⟩)); replace HO398 := aM (xM (ok' := fun k_ => some k_ ≠ oB Ao26 t364.length co26 ∧ some k_ ≠ oB Ao27 t367.length co27 ∧ some k_ ≠ oB Ao34 t374.length co34 ∧ some k_ ≠ oB Ao35 t377.length co35 ∧ some k_ ≠ oB Ao42 t382.length co42 ∧ some k_ ≠ oB Ao43 t385.length co43 ∧ some k_ ≠ oB Ao79 t393.length co79) (Kd.R_keptB (HO398.out) hkp (fun k_ hk_ hs_ => Or.elim hs_ (fun e_ => (hk_.1.1.1.2) e_) (fun e_ => (hk_.1.1.2) e_))) (fun k_ hk_ => ⟨hk_.1.1.1.1.1.1.2, hk_.1.1.1.1.1.2, hk_.1.1.1.1.2, hk_.1.1.1.2, hk_.1.1.2, hk_.1.2, hk_.1.1.1.1.1.1.1⟩)); replace HB := aM (hb); (try clear hb); (try clear hkp); (try clear hy0); (try clear hy1)))
      (try simp only [Act.put, qA, qB, qC])
      go_cut [88] (fun v88 wc => ∃ (kq : Nat) (x88_75 : Bool), v88 = .bool x88_75 ∧ Aside0 (laws_FnExactTakeRoom.j1 kq a1 a2 a3 t370 t371 x88_75 a0_0 l0_1 l0_2 t363 t364 t367 t381 t382 t385 = some r) ∧ Aside0 (kq ≤ kj13) ∧ Aside0 (Kd.R k49 49 wc w.heap.size (fun k_ => some k_ ≠ oB Ao27 t367.length co27 ∧ some k_ ≠ oB Ao34 t374.length co34 ∧ some k_ ≠ oB Ao35 t377.length co35 ∧ some k_ ≠ oB Ao42 t382.length co42 ∧ some k_ ≠ oB Ao43 t385.length co43) (.slice Ao26 t364.length co26) t364) ∧ Aside0 (Kd.R k49 49 wc w.heap.size (fun k_ => some k_ ≠ oB Ao26 t364.length co26 ∧ some k_ ≠ oB Ao34 t374.length co34 ∧ some k_ ≠ oB Ao35 t377.length co35 ∧ some k_ ≠ oB Ao42 t382.length co42 ∧ some k_ ≠ oB Ao43 t385.length co43) (.slice Ao27 t367.length co27) t367) ∧ Aside0 (Kd.R k49 49 wc w.heap.size (fun k_ => some k_ ≠ oB Ao26 t364.length co26 ∧ some k_ ≠ oB Ao27 t367.length co27 ∧ some k_ ≠ oB Ao35 t377.length co35 ∧ some k_ ≠ oB Ao42 t382.length co42 ∧ some k_ ≠ oB Ao43 t385.length co43) (.slice Ao34 t374.length co34) t401) ∧ Aside0 (Kd.R k49 49 wc w.heap.size (fun k_ => some k_ ≠ oB Ao26 t364.length co26 ∧ some k_ ≠ oB Ao27 t367.length co27 ∧ some k_ ≠ oB Ao34 t374.length co34 ∧ some k_ ≠ oB Ao42 t382.length co42 ∧ some k_ ≠ oB Ao43 t385.length co43) (.slice Ao35 t377.length co35) t402) ∧ Aside0 (Kd.R k49 49 wc w.heap.size (fun k_ => some k_ ≠ oB Ao26 t364.length co26 ∧ some k_ ≠ oB Ao27 t367.length co27 ∧ some k_ ≠ oB Ao34 t374.length co34 ∧ some k_ ≠ oB Ao35 t377.length co35 ∧ some k_ ≠ oB Ao43 t385.length co43) (.slice Ao42 t382.length co42) t382) ∧ Aside0 (Kd.R k49 49 wc w.heap.size (fun k_ => some k_ ≠ oB Ao26 t364.length co26 ∧ some k_ ≠ oB Ao27 t367.length co27 ∧ some k_ ≠ oB Ao34 t374.length co34 ∧ some k_ ≠ oB Ao35 t377.length co35 ∧ some k_ ≠ oB Ao42 t382.length co42) (.slice Ao43 t385.length co43) t385) ∧ Aside0 (wc.heap[gb354]? = some (.cells #[.int .i64 a0_0, (.slice A0_1 l0_1.length c0_1), (.slice A0_2 l0_2.length c0_2)] 32 (0, 0))) ∧ Aside0 (wc.heap[gb372]? = some (.cells #[.int .i64 t363, (.slice Ao26 t364.length co26), (.slice Ao27 t367.length co27)] 24 (0, 0))) ∧ Aside0 (wc.heap[gb380]? = some (.cells #[.int .i64 t373, (.slice Ao34 t374.length co34), (.slice Ao35 t377.length co35)] 24 (0, 0))) ∧ Aside0 (wc.heap[gb390]? = some (.cells #[.int .i64 t381, (.slice Ao42 t382.length co42), (.slice Ao43 t385.length co43)] 24 (0, 0))) ∧ Aside0 (Below w.heap.size w wc))
      case first =>
       have H := HC76.out
       clear HC76
       by_cases c87 : t400 < 0
       ·rw [if_pos c87] at H
        have c87b0 : decide (t400 < 0) = true := decide_eq_true c87
        clear c87
        (first | rw [c87b0] | (simp only [i64_w, i32_w]; rw [c87b0]) | skip)
        have H' := aM H
        clear H
        go_wp2
        go_meet
        case rel => exact ⟨_, (true), (by first | rfl | (simp; done) | (simp [*]; done)), H', ⟨by have := HJ13.out; first | omega | exact Nat.le_refl _⟩, ⟨xH (xM p0'.out (fun _ hk => ⟨hk.1, ⟨hk.2.1, ⟨hk.2.2.1, ⟨hk.2.2.2.1, hk.2.2.2.2.1⟩⟩⟩⟩))⟩, ⟨xH (xM p1'.out (fun _ hk => ⟨hk.1, ⟨hk.2.1, ⟨hk.2.2.1, ⟨hk.2.2.2.1, hk.2.2.2.2.1⟩⟩⟩⟩))⟩, ⟨xH (xM p2'.out (fun _ hk => ⟨hk.1.1.1, ⟨hk.1.1.2.1, ⟨hk.1.1.2.2.1, ⟨hk.1.1.2.2.2.1, hk.1.1.2.2.2.2⟩⟩⟩⟩))⟩, ⟨xH (xM p3'.out (fun _ hk => ⟨hk.1.1.1, ⟨hk.1.1.2.1, ⟨hk.1.1.2.2.1, ⟨hk.1.1.2.2.2.1, hk.1.1.2.2.2.2⟩⟩⟩⟩))⟩, ⟨xH (xM p4'.out (fun _ hk => ⟨hk.1, ⟨hk.2.1, ⟨hk.2.2.1, ⟨hk.2.2.2.1, hk.2.2.2.2.1⟩⟩⟩⟩))⟩, ⟨xH (xM p5'.out (fun _ hk => ⟨hk.1, ⟨hk.2.1, ⟨hk.2.2.1, ⟨hk.2.2.2.1, hk.2.2.2.2.1⟩⟩⟩⟩))⟩, ⟨yH BK354.out⟩, ⟨yH BK372.out⟩, ⟨yH BK380.out⟩, ⟨yH BK390.out⟩, ⟨zH HB.out⟩⟩
       ·rw [if_neg c87] at H
        have c87b0 : decide (t400 < 0) = false := decide_eq_false c87
        clear c87
        (first | rw [c87b0] | (simp only [i64_w, i32_w]; rw [c87b0]) | skip)
        replace H := Option.bind_eq_some_iff.mp H
        obtain ⟨t403, A880, H⟩ := H
        replace H : (if t403 = true then (if t388 = t370 then (laws_FnExactTakeRoom.j1 kj13 a1 a2 a3 t370 t371 (t389 != t371) a0_0 l0_1 l0_2 t363 t364 t367 t381 t382 t385) else (laws_FnExactTakeRoom.j1 kj13 a1 a2 a3 t370 t371 true a0_0 l0_1 l0_2 t363 t364 t367 t381 t382 t385)) else (laws_FnExactTakeRoom.j1 kj13 a1 a2 a3 t370 t371 true a0_0 l0_1 l0_2 t363 t364 t367 t381 t382 t385)) = some r := H
        have A88 := aM A880
        clear A880
        by_cases c89 : t403 = true
        ·subst c89
         have H1 : (if t388 = t370 then (laws_FnExactTakeRoom.j1 kj13 a1 a2 a3 t370 t371 (t389 != t371) a0_0 l0_1 l0_2 t363 t364 t367 t381 t382 t385) else (laws_FnExactTakeRoom.j1 kj13 a1 a2 a3 t370 t371 true a0_0 l0_1 l0_2 t363 t364 t367 t381 t382 t385)) = some r := by rw [if_pos rfl] at H; exact H
         clear H
         have H := H1
         clear H1
         by_cases c90 : t388 = t370
         ·rw [if_pos c90] at H
          have c90b0 : (t388 == t370) = true := beq_iff_eq.mpr c90
          have c90b1 : (t388 != t370) = false := bne_eq_false_iff_eq.mpr c90
          clear c90
          have H' := aM H
          clear H
          have hnb91 := NB390_354.out
          have hnc91 := NB354_390.out
          have hnb92 := NB390_372.out
          have hnc92 := NB372_390.out
          have hnb93 := NB390_380.out
          have hnc93 := NB380_390.out
          have hcz94_0 : w86.cell? ⟨gb390, 0, none⟩ = some (.int .i64 t381) := yc BK390.out 0
          have hcz94_1 : w86.cell? ⟨gb390, 1, none⟩ = some (.slice Ao42 t382.length co42) := yc BK390.out 1
          have hcz94_2 : w86.cell? ⟨gb390, 2, none⟩ = some (.slice Ao43 t385.length co43) := yc BK390.out 2
          have hfz94_0 := yZ BK390.out 0
          have hfz94_1 := yZ BK390.out 1
          have hfz94_2 := yZ BK390.out 2
          have hnb95 := NB372_354.out
          have hnc95 := NB354_372.out
          have hnb96 := NB372_380.out
          have hnc96 := NB380_372.out
          have hcz97_0 : w86.cell? ⟨gb372, 0, none⟩ = some (.int .i64 t363) := yc BK372.out 0
          have hcz97_1 : w86.cell? ⟨gb372, 1, none⟩ = some (.slice Ao26 t364.length co26) := yc BK372.out 1
          have hcz97_2 : w86.cell? ⟨gb372, 2, none⟩ = some (.slice Ao27 t367.length co27) := yc BK372.out 2
          have hfz97_0 := yZ BK372.out 0
          have hfz97_1 := yZ BK372.out 1
          have hfz97_2 := yZ BK372.out 2
          go_wp2_with (first | (go_at_call 13; (with_reducible refine (laws_eqFree.calls kj13 t381 _ _ t382 _ _ t385 t363 _ _ t364 _ _ t367 true _ ?side1 ?side2 ?side3 ?side4 ?side5 ?side6 ?side7 ?side8 A88.out).mono ?_); (case side1 => repeat (first | exact (Kd.R_reads' p4'.out).2.2 | (with_reducible refine cA ?_ _) | (with_reducible refine cN ?_ _) | (with_reducible refine cD ?_))); (case side2 => exact (Kd.R_reads' p4'.out).2.1); (case side3 => repeat (first | exact (Kd.R_reads' p5'.out).2.2 | (with_reducible refine cA ?_ _) | (with_reducible refine cN ?_ _) | (with_reducible refine cD ?_))); (case side4 => exact (Kd.R_reads' p5'.out).2.1); (case side5 => repeat (first | exact (Kd.R_reads' p0'.out).2.2 | (with_reducible refine cA ?_ _) | (with_reducible refine cN ?_ _) | (with_reducible refine cD ?_))); (case side6 => exact (Kd.R_reads' p0'.out).2.1); (case side7 => repeat (first | exact (Kd.R_reads' p1'.out).2.2 | (with_reducible refine cA ?_ _) | (with_reducible refine cN ?_ _) | (with_reducible refine cD ?_))); (case side8 => exact (Kd.R_reads' p1'.out).2.1); rintro e w98 ⟨rfl, hb⟩; replace p0' := xK p0'.out hb; replace p1' := xK p1'.out hb; replace p2' := xK p2'.out hb; replace p3' := xK p3'.out hb; replace p4' := xK p4'.out hb; replace p5' := xK p5'.out hb; replace HO395 := xK HO395.out hb; replace HO398 := xK HO398.out hb; replace BK354 := yK BK354.out hb; replace BK372 := yK BK372.out hb; replace BK380 := yK BK380.out hb; replace BK390 := yK BK390.out hb; replace HB := aM (zT (zH HB.out) hb); (try clear hb)))
          go_meet
          case rel => exact ⟨_, ((t389 != t371)), (by first | rfl | (simp; done) | (simp [*]; done)), H', ⟨by have := HJ13.out; first | omega | exact Nat.le_refl _⟩, ⟨xH (xM p0'.out (fun _ hk => ⟨hk.1, ⟨hk.2.1, ⟨hk.2.2.1, ⟨hk.2.2.2.1, hk.2.2.2.2.1⟩⟩⟩⟩))⟩, ⟨xH (xM p1'.out (fun _ hk => ⟨hk.1, ⟨hk.2.1, ⟨hk.2.2.1, ⟨hk.2.2.2.1, hk.2.2.2.2.1⟩⟩⟩⟩))⟩, ⟨xH (xM p2'.out (fun _ hk => ⟨hk.1.1.1, ⟨hk.1.1.2.1, ⟨hk.1.1.2.2.1, ⟨hk.1.1.2.2.2.1, hk.1.1.2.2.2.2⟩⟩⟩⟩))⟩, ⟨xH (xM p3'.out (fun _ hk => ⟨hk.1.1.1, ⟨hk.1.1.2.1, ⟨hk.1.1.2.2.1, ⟨hk.1.1.2.2.2.1, hk.1.1.2.2.2.2⟩⟩⟩⟩))⟩, ⟨xH (xM p4'.out (fun _ hk => ⟨hk.1, ⟨hk.2.1, ⟨hk.2.2.1, ⟨hk.2.2.2.1, hk.2.2.2.2.1⟩⟩⟩⟩))⟩, ⟨xH (xM p5'.out (fun _ hk => ⟨hk.1, ⟨hk.2.1, ⟨hk.2.2.1, ⟨hk.2.2.2.1, hk.2.2.2.2.1⟩⟩⟩⟩))⟩, ⟨yH BK354.out⟩, ⟨yH BK372.out⟩, ⟨yH BK380.out⟩, ⟨yH BK390.out⟩, ⟨zH HB.out⟩⟩
         ·rw [if_neg c90] at H
          have c90b0 : (t388 == t370) = false := beq_eq_false_iff_ne.mpr c90
          have c90b1 : (t388 != t370) = true := bne_iff_ne.mpr c90
          have H' := aM H
          clear H
          have hnb99 := NB390_354.out
          have hnc99 := NB354_390.out
          have hnb100 := NB390_372.out
          have hnc100 := NB372_390.out
          have hnb101 := NB390_380.out
          have hnc101 := NB380_390.out
          have hcz102_0 : w86.cell? ⟨gb390, 0, none⟩ = some (.int .i64 t381) := yc BK390.out 0
          have hcz102_1 : w86.cell? ⟨gb390, 1, none⟩ = some (.slice Ao42 t382.length co42) := yc BK390.out 1
          have hcz102_2 : w86.cell? ⟨gb390, 2, none⟩ = some (.slice Ao43 t385.length co43) := yc BK390.out 2
          have hfz102_0 := yZ BK390.out 0
          have hfz102_1 := yZ BK390.out 1
          have hfz102_2 := yZ BK390.out 2
          have hnb103 := NB372_354.out
          have hnc103 := NB354_372.out
          have hnb104 := NB372_380.out
          have hnc104 := NB380_372.out
          have hcz105_0 : w86.cell? ⟨gb372, 0, none⟩ = some (.int .i64 t363) := yc BK372.out 0
          have hcz105_1 : w86.cell? ⟨gb372, 1, none⟩ = some (.slice Ao26 t364.length co26) := yc BK372.out 1
          have hcz105_2 : w86.cell? ⟨gb372, 2, none⟩ = some (.slice Ao27 t367.length co27) := yc BK372.out 2
          have hfz105_0 := yZ BK372.out 0
          have hfz105_1 := yZ BK372.out 1
          have hfz105_2 := yZ BK372.out 2
          go_wp2_with (first | (go_at_call 13; (with_reducible refine (laws_eqFree.calls kj13 t381 _ _ t382 _ _ t385 t363 _ _ t364 _ _ t367 true _ ?side1 ?side2 ?side3 ?side4 ?side5 ?side6 ?side7 ?side8 A88.out).mono ?_); (case side1 => repeat (first | exact (Kd.R_reads' p4'.out).2.2 | (with_reducible refine cA ?_ _) | (with_reducible refine cN ?_ _) | (with_reducible refine cD ?_))); (case side2 => exact (Kd.R_reads' p4'.out).2.1); (case side3 => repeat (first | exact (Kd.R_reads' p5'.out).2.2 | (with_reducible refine cA ?_ _) | (with_reducible refine cN ?_ _) | (with_reducible refine cD ?_))); (case side4 => exact (Kd.R_reads' p5'.out).2.1); (case side5 => repeat (first | exact (Kd.R_reads' p0'.out).2.2 | (with_reducible refine cA ?_ _) | (with_reducible refine cN ?_ _) | (with_reducible refine cD ?_))); (case side6 => exact (Kd.R_reads' p0'.out).2.1); (case side7 => repeat (first | exact (Kd.R_reads' p1'.out).2.2 | (with_reducible refine cA ?_ _) | (with_reducible refine cN ?_ _) | (with_reducible refine cD ?_))); (case side8 => exact (Kd.R_reads' p1'.out).2.1); rintro e w106 ⟨rfl, hb⟩; replace p0' := xK p0'.out hb; replace p1' := xK p1'.out hb; replace p2' := xK p2'.out hb; replace p3' := xK p3'.out hb; replace p4' := xK p4'.out hb; replace p5' := xK p5'.out hb; replace HO395 := xK HO395.out hb; replace HO398 := xK HO398.out hb; replace BK354 := yK BK354.out hb; replace BK372 := yK BK372.out hb; replace BK380 := yK BK380.out hb; replace BK390 := yK BK390.out hb; replace HB := aM (zT (zH HB.out) hb); (try clear hb)))
          go_meet
          case rel => exact ⟨_, (true), (by first | rfl | (simp; done) | (simp [*]; done)), H', ⟨by have := HJ13.out; first | omega | exact Nat.le_refl _⟩, ⟨xH (xM p0'.out (fun _ hk => ⟨hk.1, ⟨hk.2.1, ⟨hk.2.2.1, ⟨hk.2.2.2.1, hk.2.2.2.2.1⟩⟩⟩⟩))⟩, ⟨xH (xM p1'.out (fun _ hk => ⟨hk.1, ⟨hk.2.1, ⟨hk.2.2.1, ⟨hk.2.2.2.1, hk.2.2.2.2.1⟩⟩⟩⟩))⟩, ⟨xH (xM p2'.out (fun _ hk => ⟨hk.1.1.1, ⟨hk.1.1.2.1, ⟨hk.1.1.2.2.1, ⟨hk.1.1.2.2.2.1, hk.1.1.2.2.2.2⟩⟩⟩⟩))⟩, ⟨xH (xM p3'.out (fun _ hk => ⟨hk.1.1.1, ⟨hk.1.1.2.1, ⟨hk.1.1.2.2.1, ⟨hk.1.1.2.2.2.1, hk.1.1.2.2.2.2⟩⟩⟩⟩))⟩, ⟨xH (xM p4'.out (fun _ hk => ⟨hk.1, ⟨hk.2.1, ⟨hk.2.2.1, ⟨hk.2.2.2.1, hk.2.2.2.2.1⟩⟩⟩⟩))⟩, ⟨xH (xM p5'.out (fun _ hk => ⟨hk.1, ⟨hk.2.1, ⟨hk.2.2.1, ⟨hk.2.2.2.1, hk.2.2.2.2.1⟩⟩⟩⟩))⟩, ⟨yH BK354.out⟩, ⟨yH BK372.out⟩, ⟨yH BK380.out⟩, ⟨yH BK390.out⟩, ⟨zH HB.out⟩⟩
        ·replace c89 := Bool.eq_false_iff.mpr c89
         subst c89
         have H1 : (laws_FnExactTakeRoom.j1 kj13 a1 a2 a3 t370 t371 true a0_0 l0_1 l0_2 t363 t364 t367 t381 t382 t385) = some r := by rw [if_neg (show ¬ (false = true) by decide)] at H; exact H
         clear H
         have H := H1
         clear H1
         have H' := aM H
         clear H
         have hnb107 := NB390_354.out
         have hnc107 := NB354_390.out
         have hnb108 := NB390_372.out
         have hnc108 := NB372_390.out
         have hnb109 := NB390_380.out
         have hnc109 := NB380_390.out
         have hcz110_0 : w86.cell? ⟨gb390, 0, none⟩ = some (.int .i64 t381) := yc BK390.out 0
         have hcz110_1 : w86.cell? ⟨gb390, 1, none⟩ = some (.slice Ao42 t382.length co42) := yc BK390.out 1
         have hcz110_2 : w86.cell? ⟨gb390, 2, none⟩ = some (.slice Ao43 t385.length co43) := yc BK390.out 2
         have hfz110_0 := yZ BK390.out 0
         have hfz110_1 := yZ BK390.out 1
         have hfz110_2 := yZ BK390.out 2
         have hnb111 := NB372_354.out
         have hnc111 := NB354_372.out
         have hnb112 := NB372_380.out
         have hnc112 := NB380_372.out
         have hcz113_0 : w86.cell? ⟨gb372, 0, none⟩ = some (.int .i64 t363) := yc BK372.out 0
         have hcz113_1 : w86.cell? ⟨gb372, 1, none⟩ = some (.slice Ao26 t364.length co26) := yc BK372.out 1
         have hcz113_2 : w86.cell? ⟨gb372, 2, none⟩ = some (.slice Ao27 t367.length co27) := yc BK372.out 2
         have hfz113_0 := yZ BK372.out 0
         have hfz113_1 := yZ BK372.out 1
         have hfz113_2 := yZ BK372.out 2
         go_wp2_with (first | (go_at_call 13; (with_reducible refine (laws_eqFree.calls kj13 t381 _ _ t382 _ _ t385 t363 _ _ t364 _ _ t367 false _ ?side1 ?side2 ?side3 ?side4 ?side5 ?side6 ?side7 ?side8 A88.out).mono ?_); (case side1 => repeat (first | exact (Kd.R_reads' p4'.out).2.2 | (with_reducible refine cA ?_ _) | (with_reducible refine cN ?_ _) | (with_reducible refine cD ?_))); (case side2 => exact (Kd.R_reads' p4'.out).2.1); (case side3 => repeat (first | exact (Kd.R_reads' p5'.out).2.2 | (with_reducible refine cA ?_ _) | (with_reducible refine cN ?_ _) | (with_reducible refine cD ?_))); (case side4 => exact (Kd.R_reads' p5'.out).2.1); (case side5 => repeat (first | exact (Kd.R_reads' p0'.out).2.2 | (with_reducible refine cA ?_ _) | (with_reducible refine cN ?_ _) | (with_reducible refine cD ?_))); (case side6 => exact (Kd.R_reads' p0'.out).2.1); (case side7 => repeat (first | exact (Kd.R_reads' p1'.out).2.2 | (with_reducible refine cA ?_ _) | (with_reducible refine cN ?_ _) | (with_reducible refine cD ?_))); (case side8 => exact (Kd.R_reads' p1'.out).2.1); rintro e w114 ⟨rfl, hb⟩; replace p0' := xK p0'.out hb; replace p1' := xK p1'.out hb; replace p2' := xK p2'.out hb; replace p3' := xK p3'.out hb; replace p4' := xK p4'.out hb; replace p5' := xK p5'.out hb; replace HO395 := xK HO395.out hb; replace HO398 := xK HO398.out hb; replace BK354 := yK BK354.out hb; replace BK372 := yK BK372.out hb; replace BK380 := yK BK380.out hb; replace BK390 := yK BK390.out hb; replace HB := aM (zT (zH HB.out) hb); (try clear hb)))
         go_meet
         case rel => exact ⟨_, (true), (by first | rfl | (simp; done) | (simp [*]; done)), H', ⟨by have := HJ13.out; first | omega | exact Nat.le_refl _⟩, ⟨xH (xM p0'.out (fun _ hk => ⟨hk.1, ⟨hk.2.1, ⟨hk.2.2.1, ⟨hk.2.2.2.1, hk.2.2.2.2.1⟩⟩⟩⟩))⟩, ⟨xH (xM p1'.out (fun _ hk => ⟨hk.1, ⟨hk.2.1, ⟨hk.2.2.1, ⟨hk.2.2.2.1, hk.2.2.2.2.1⟩⟩⟩⟩))⟩, ⟨xH (xM p2'.out (fun _ hk => ⟨hk.1.1.1, ⟨hk.1.1.2.1, ⟨hk.1.1.2.2.1, ⟨hk.1.1.2.2.2.1, hk.1.1.2.2.2.2⟩⟩⟩⟩))⟩, ⟨xH (xM p3'.out (fun _ hk => ⟨hk.1.1.1, ⟨hk.1.1.2.1, ⟨hk.1.1.2.2.1, ⟨hk.1.1.2.2.2.1, hk.1.1.2.2.2.2⟩⟩⟩⟩))⟩, ⟨xH (xM p4'.out (fun _ hk => ⟨hk.1, ⟨hk.2.1, ⟨hk.2.2.1, ⟨hk.2.2.2.1, hk.2.2.2.2.1⟩⟩⟩⟩))⟩, ⟨xH (xM p5'.out (fun _ hk => ⟨hk.1, ⟨hk.2.1, ⟨hk.2.2.1, ⟨hk.2.2.2.1, hk.2.2.2.2.1⟩⟩⟩⟩))⟩, ⟨yH BK354.out⟩, ⟨yH BK372.out⟩, ⟨yH BK380.out⟩, ⟨yH BK390.out⟩, ⟨zH HB.out⟩⟩
      case rest =>
       clear HC76
       (try clear c1); (try clear c2); (try clear p2); (try clear c3); (try clear c4); (try clear c5); (try clear c6); (try clear c6b0); (try clear c7); (try clear c8); (try clear c9); (try clear c10); (try clear c11); (try clear c13); (try clear c14); (try clear c16); (try clear c18); (try clear c24); (try clear c31); (try clear c32); (try clear c34); (try clear c35); (try clear c38); (try clear c39); (try clear c40); (try clear c45); (try clear c46); (try clear c46b0); (try clear c46b1); (try clear c47); (try clear c48); (try clear c49); (try clear c51); (try clear c52); (try clear c55); (try clear c56); (try clear c57); (try clear c59); (try clear c60); (try clear c63); (try clear c64); (try clear c65); (try clear c67); (try clear c68); (try clear c71); (try clear c74); (try clear c82); (try clear c83); (try clear c84); (try clear c87); (try clear c87b0); (try clear c89); (try clear c90); (try clear c90b0); (try clear c90b1); (try clear c91); (try clear c92); (try clear c93); (try clear c95); (try clear c96); (try clear c99); (try clear c100); (try clear c101); (try clear c103); (try clear c104); (try clear c107); (try clear c108); (try clear c109); (try clear c111); (try clear c112); (try clear hcz102_0); (try clear hcz102_1); (try clear hcz102_2); (try clear hcz105_0); (try clear hcz105_1); (try clear hcz105_2); (try clear hcz110_0); (try clear hcz110_1); (try clear hcz110_2); (try clear hcz113_0); (try clear hcz113_1); (try clear hcz113_2); (try clear hcz16_0); (try clear hcz16_1); (try clear hcz16_2); (try clear hcz18_0); (try clear hcz18_1); (try clear hcz18_2); (try clear hcz25_0); (try clear hcz25_1); (try clear hcz25_2); (try clear hcz28_0); (try clear hcz28_1); (try clear hcz28_2); (try clear hcz33_0); (try clear hcz33_1); (try clear hcz33_2); (try clear hcz41_0); (try clear hcz41_1); (try clear hcz41_2); (try clear hcz50_0); (try clear hcz50_1); (try clear hcz50_2); (try clear hcz53_0); (try clear hcz53_1); (try clear hcz53_2); (try clear hcz58_0); (try clear hcz58_1); (try clear hcz58_2); (try clear hcz61_0); (try clear hcz61_1); (try clear hcz61_2); (try clear hcz66_0); (try clear hcz66_1); (try clear hcz66_2); (try clear hcz69_0); (try clear hcz69_1); (try clear hcz69_2); (try clear hcz85_0); (try clear hcz85_1); (try clear hcz85_2); (try clear hcz8_0); (try clear hcz8_1); (try clear hcz8_2); (try clear hcz94_0); (try clear hcz94_1); (try clear hcz94_2); (try clear hcz97_0); (try clear hcz97_1); (try clear hcz97_2); (try clear hfz102_0); (try clear hfz102_1); (try clear hfz102_2); (try clear hfz105_0); (try clear hfz105_1); (try clear hfz105_2); (try clear hfz110_0); (try clear hfz110_1); (try clear hfz110_2); (try clear hfz113_0); (try clear hfz113_1); (try clear hfz113_2); (try clear hfz16_0); (try clear hfz16_1); (try clear hfz16_2); (try clear hfz18_0); (try clear hfz18_1); (try clear hfz18_2); (try clear hfz25_0); (try clear hfz25_1); (try clear hfz25_2); (try clear hfz28_0); (try clear hfz28_1); (try clear hfz28_2); (try clear hfz33_0); (try clear hfz33_1); (try clear hfz33_2); (try clear hfz41_0); (try clear hfz41_1); (try clear hfz41_2); (try clear hfz50_0); (try clear hfz50_1); (try clear hfz50_2); (try clear hfz53_0); (try clear hfz53_1); (try clear hfz53_2); (try clear hfz58_0); (try clear hfz58_1); (try clear hfz58_2); (try clear hfz61_0); (try clear hfz61_1); (try clear hfz61_2); (try clear hfz66_0); (try clear hfz66_1); (try clear hfz66_2); (try clear hfz69_0); (try clear hfz69_1); (try clear hfz69_2); (try clear hfz85_0); (try clear hfz85_1); (try clear hfz85_2); (try clear hfz8_0); (try clear hfz8_1); (try clear hfz8_2); (try clear hfz94_0); (try clear hfz94_1); (try clear hfz94_2); (try clear hfz97_0); (try clear hfz97_1); (try clear hfz97_2); (try clear p2)
       obtain ⟨kq, x88_75, rfl, HA, HJ75, p0', p1', p2', p3', p4', p5', BK354, BK372, BK380, BK390, HB⟩ := hcut
       have hl381001_75 := (Kd.R_reads' p2'.out).1
       rw [hl381001_75] at p2'
       (try simp only [hl381001_75])
       (try simp only [hl381001_75] at BK354)
       (try simp only [hl381001_75] at BK372)
       (try simp only [hl381001_75] at BK380)
       (try simp only [hl381001_75] at BK390)
       (try simp only [hl381001_75] at p0')
       (try simp only [hl381001_75] at p1')
       (try simp only [hl381001_75] at p3')
       (try simp only [hl381001_75] at p4')
       (try simp only [hl381001_75] at p5')
       have hl381002_75 := (Kd.R_reads' p3'.out).1
       rw [hl381002_75] at p3'
       (try simp only [hl381002_75])
       (try simp only [hl381002_75] at BK354)
       (try simp only [hl381002_75] at BK372)
       (try simp only [hl381002_75] at BK380)
       (try simp only [hl381002_75] at BK390)
       (try simp only [hl381002_75] at p0')
       (try simp only [hl381002_75] at p1')
       (try simp only [hl381002_75] at p2')
       (try simp only [hl381002_75] at p4')
       (try simp only [hl381002_75] at p5')
       cases kq with
       | zero => exact absurd HA.out (fun h_ => by change none = some _ at h_; cases h_)
       | succ kj75 =>
        have H := HA.out
        clear HA
        simp only [laws_FnExactTakeRoom.j1] at H
        by_cases c115 : x88_75 = true
        ·subst c115
         have H1 : (some false) = some r := by rw [if_pos rfl] at H; exact H
         clear H
         have H := H1
         clear H1
         exact absurd (H.trans (congrArg some HR_.out)) (by decide)
        ·replace c115 := Bool.eq_false_iff.mpr c115
         subst c115
         have H1 : ((laws_markFree.f kj75 t381 t382 t385 1).bind fun bt404 => ((laws_heldFree.f kj75 t381 bt404.2.1 bt404.2.2 1).bind fun t407 => (if t407 < 0 then (some false) else (if t407 = bt404.1 then ((laws_toFree.f kj75 a0_0 l0_1 l0_2).bind fun bt408 => ((impl_TakeRoom.f kj75 bt408.1 bt408.2.1 bt408.2.2 a1 a2 a3).bind fun bt415 => ((laws_eqFree.f kj75 bt415.1 bt415.2.1 bt415.2.2.1 t363 t364 t367).bind fun t425 => (if t425 = true then (if bt415.2.2.2.1 = t370 then (laws_FnExactTakeRoom.j2 kj75 bt404.1 (bt415.2.2.2.2 != t371) t381 bt404.2.1 bt404.2.2) else (laws_FnExactTakeRoom.j2 kj75 bt404.1 true t381 bt404.2.1 bt404.2.2)) else (laws_FnExactTakeRoom.j2 kj75 bt404.1 true t381 bt404.2.1 bt404.2.2))))) else (some false))))) = some r := by rw [if_neg (show ¬ (false = true) by decide)] at H; exact H
         clear H
         have H := H1
         clear H1
         replace H := Option.bind_eq_some_iff.mp H
         obtain ⟨⟨t404, t405, t406⟩, A1160, H⟩ := H
         replace H : ((laws_heldFree.f kj75 t381 t405 t406 1).bind fun t407 => (if t407 < 0 then (some false) else (if t407 = t404 then ((laws_toFree.f kj75 a0_0 l0_1 l0_2).bind fun bt408 => ((impl_TakeRoom.f kj75 bt408.1 bt408.2.1 bt408.2.2 a1 a2 a3).bind fun bt415 => ((laws_eqFree.f kj75 bt415.1 bt415.2.1 bt415.2.2.1 t363 t364 t367).bind fun t425 => (if t425 = true then (if bt415.2.2.2.1 = t370 then (laws_FnExactTakeRoom.j2 kj75 t404 (bt415.2.2.2.2 != t371) t381 t405 t406) else (laws_FnExactTakeRoom.j2 kj75 t404 true t381 t405 t406)) else (laws_FnExactTakeRoom.j2 kj75 t404 true t381 t405 t406))))) else (some false)))) = some r := H
         have A116 := aM A1160
         clear A1160
         replace H := Option.bind_eq_some_iff.mp H
         obtain ⟨t407, A1170, H⟩ := H
         replace H : (if t407 < 0 then (some false) else (if t407 = t404 then ((laws_toFree.f kj75 a0_0 l0_1 l0_2).bind fun bt408 => ((impl_TakeRoom.f kj75 bt408.1 bt408.2.1 bt408.2.2 a1 a2 a3).bind fun bt415 => ((laws_eqFree.f kj75 bt415.1 bt415.2.1 bt415.2.2.1 t363 t364 t367).bind fun t425 => (if t425 = true then (if bt415.2.2.2.1 = t370 then (laws_FnExactTakeRoom.j2 kj75 t404 (bt415.2.2.2.2 != t371) t381 t405 t406) else (laws_FnExactTakeRoom.j2 kj75 t404 true t381 t405 t406)) else (laws_FnExactTakeRoom.j2 kj75 t404 true t381 t405 t406))))) else (some false))) = some r := H
         have A117 := aM A1170
         clear A1170
         by_cases c118 : t407 < 0
         ·rw [if_pos c118] at H
          have c118b0 : decide (t407 < 0) = true := decide_eq_true c118
          clear c118
          obtain rfl := Option.some.inj H
          have hnb119 := NB390_354.out
          have hnc119 := NB354_390.out
          have hnb120 := NB390_372.out
          have hnc120 := NB372_390.out
          have hnb121 := NB390_380.out
          have hnc121 := NB380_390.out
          have hcz122_0 : wc.cell? ⟨gb390, 0, none⟩ = some (.int .i64 t381) := yc BK390.out 0
          have hcz122_1 : wc.cell? ⟨gb390, 1, none⟩ = some (.slice Ao42 t382.length co42) := yc BK390.out 1
          have hcz122_2 : wc.cell? ⟨gb390, 2, none⟩ = some (.slice Ao43 t385.length co43) := yc BK390.out 2
          have hfz122_0 := yZ BK390.out 0
          have hfz122_1 := yZ BK390.out 1
          have hfz122_2 := yZ BK390.out 2
          go_wp2_with (first | ((with_reducible refine gate_callee (f := 14) rfl ?_); refine goesL_ (some 91) rfl rfl Try.func14 (by kernel_rfl) rfl #[.agg #[.int .i64 t381, .slice Ao42 t382.length co42, .slice Ao43 t385.length co43], .int .i64 1] rfl (by (try simp only [List.map_toArray, List.map_cons, List.map_nil]); first | done | rfl | (simp only [List.length_drop, List.length_take]; rfl)) ?_; (with_reducible refine (laws_markFree.calls kj75 t381 (fun k_ => some k_ = oB Ao42 t382.length co42) (.slice Ao42 t382.length co42) t382 (fun k_ => some k_ = oB Ao43 t385.length co43) (.slice Ao43 t385.length co43) t385 1 t404 t405 t406 w _ ?side1 ?side2 ?side3 ?side4 ?side5 A116.out).mono ?_); (case side1 => repeat (first | (with_reducible first | exact HB.out | apply zA | apply zN | apply zD | refine zS ?_ GE354.out | refine zS ?_ GE372.out | refine zS ?_ GE380.out | refine zS ?_ GE390.out) | exact HB.out)); (case side2 => exact Kd.R_tight rfl p4'.out); (case side3 => exact fun k_ e_ => (p4'.out.1 k_ e_.symm).2.2.2.2); (case side4 => exact Kd.R_tight rfl p5'.out); (case side5 => exact fun k_ e_ => (p5'.out.1 k_ e_.symm).2.2.2.2); rintro e w123 ⟨rfl, hy0, hy1, hb, hkp⟩; refine ⟨_, rfl, ?_⟩; replace p0' := kB p0'.out hkp (fun k_ hk_ hs_ => Or.elim hs_ (fun e_ => (hk_.2.2.2.1) e_) (fun e_ => (hk_.2.2.2.2) e_)); replace p1' := kB p1'.out hkp (fun k_ hk_ hs_ => Or.elim hs_ (fun e_ => (hk_.2.2.2.1) e_) (fun e_ => (hk_.2.2.2.2) e_)); replace p2' := kB p2'.out hkp (fun k_ hk_ hs_ => Or.elim hs_ (fun e_ => (hk_.2.2.2.1) e_) (fun e_ => (hk_.2.2.2.2) e_)); replace p3' := kB p3'.out hkp (fun k_ hk_ hs_ => Or.elim hs_ (fun e_ => (hk_.2.2.2.1) e_) (fun e_ => (hk_.2.2.2.2) e_)); replace BK354 := aM (blk_kept BK354.out hkp (fun hs_ => Or.elim hs_ (fun e_ => (fun e_ => (Kd.R_ne p4'.out BK354.out (by decide)) e_) e_) (fun e_ => (fun e_ => (Kd.R_ne p5'.out BK354.out (by decide)) e_) e_))); replace BK372 := aM (blk_kept BK372.out hkp (fun hs_ => Or.elim hs_ (fun e_ => (fun e_ => (Kd.R_ne p4'.out BK372.out (by decide)) e_) e_) (fun e_ => (fun e_ => (Kd.R_ne p5'.out BK372.out (by decide)) e_) e_))); replace BK380 := aM (blk_kept BK380.out hkp (fun hs_ => Or.elim hs_ (fun e_ => (fun e_ => (Kd.R_ne p4'.out BK380.out (by decide)) e_) e_) (fun e_ => (fun e_ => (Kd.R_ne p5'.out BK380.out (by decide)) e_) e_))); replace BK390 := aM (blk_kept BK390.out hkp (fun hs_ => Or.elim hs_ (fun e_ => (fun e_ => (Kd.R_ne p4'.out BK390.out (by decide)) e_) e_) (fun e_ => (fun e_ => (Kd.R_ne p5'.out BK390.out (by decide)) e_) e_))); replace p4' := aM (Kd.R_reok rfl hy0 (fun k_ e_ => p4'.out.1 k_ e_)); replace p5' := aM (Kd.R_reok rfl hy1 (fun k_ e_ => p5'.out.1 k_ e_)); replace HB := aM (hb); (try clear hb); (try clear hkp); (try clear hy0); (try clear hy1); have hcz124_0 : w123.cell? ⟨gb390, 0, none⟩ = some (.int .i64 t381) := yc BK390.out 0; have hcz124_1 : w123.cell? ⟨gb390, 1, none⟩ = some (.slice Ao42 t382.length co42) := yc BK390.out 1; have hcz124_2 : w123.cell? ⟨gb390, 2, none⟩ = some (.slice Ao43 t385.length co43) := yc BK390.out 2; have hfz124_0 := yZ BK390.out 0; have hfz124_1 := yZ BK390.out 1; have hfz124_2 := yZ BK390.out 2) | ((with_reducible refine gate_callee (f := 15) rfl ?_); refine goesL_ (some 94) rfl rfl Try.func15 (by kernel_rfl) rfl #[.agg #[.int .i64 t381, .slice Ao42 t405.length co42, .slice Ao43 t406.length co43], .int .i64 1] rfl (by (try simp only [List.map_toArray, List.map_cons, List.map_nil]); first | done | (rw [show t405.length = t382.length from (Kd.R_reads' p4'.out).1.symm, show t406.length = t385.length from (Kd.R_reads' p5'.out).1.symm] <;> rfl) | rfl | (simp only [List.length_drop, List.length_take]; rfl)) ?_; (with_reducible refine (laws_heldFree.calls kj75 t381 _ _ t405 _ _ t406 1 t407 _ ?side1 ?side2 ?side3 ?side4 A117.out).mono ?_); (case side1 => repeat (first | exact (Kd.R_reads' p4'.out).2.2 | (with_reducible refine cA ?_ _) | (with_reducible refine cN ?_ _) | (with_reducible refine cD ?_))); (case side2 => rw [show t405.length = t382.length from (Kd.R_reads' p4'.out).1.symm]; exact (Kd.R_reads' p4'.out).2.1); (case side3 => repeat (first | exact (Kd.R_reads' p5'.out).2.2 | (with_reducible refine cA ?_ _) | (with_reducible refine cN ?_ _) | (with_reducible refine cD ?_))); (case side4 => rw [show t406.length = t385.length from (Kd.R_reads' p5'.out).1.symm]; exact (Kd.R_reads' p5'.out).2.1); rintro e w125 ⟨rfl, hb⟩; refine ⟨_, rfl, ?_⟩; replace p0' := xK p0'.out hb; replace p1' := xK p1'.out hb; replace p2' := xK p2'.out hb; replace p3' := xK p3'.out hb; replace p4' := xK p4'.out hb; replace p5' := xK p5'.out hb; replace BK354 := yK BK354.out hb; replace BK372 := yK BK372.out hb; replace BK380 := yK BK380.out hb; replace BK390 := yK BK390.out hb; replace HB := aM (zT (zH HB.out) hb); (try clear hb)))
          go_ret
          exact ⟨by first | rfl | (simp [errW_none, errW_some] <;> rfl) | (simp [*, errW_none, errW_some] <;> rfl), zH HB.out⟩
         ·rw [if_neg c118] at H
          have c118b0 : decide (t407 < 0) = false := decide_eq_false c118
          clear c118
          by_cases c126 : t407 = t404
          ·rw [if_pos c126] at H
           have c126b0 : (t407 == t404) = true := beq_iff_eq.mpr c126
           have c126b1 : (t407 != t404) = false := bne_eq_false_iff_eq.mpr c126
           clear c126
           replace H := Option.bind_eq_some_iff.mp H
           obtain ⟨⟨t408, t409, t412⟩, A1270, H⟩ := H
           replace H : ((impl_TakeRoom.f kj75 t408 t409 t412 a1 a2 a3).bind fun bt415 => ((laws_eqFree.f kj75 bt415.1 bt415.2.1 bt415.2.2.1 t363 t364 t367).bind fun t425 => (if t425 = true then (if bt415.2.2.2.1 = t370 then (laws_FnExactTakeRoom.j2 kj75 t404 (bt415.2.2.2.2 != t371) t381 t405 t406) else (laws_FnExactTakeRoom.j2 kj75 t404 true t381 t405 t406)) else (laws_FnExactTakeRoom.j2 kj75 t404 true t381 t405 t406)))) = some r := H
           have A127 := aM A1270
           clear A1270
           replace H := Option.bind_eq_some_iff.mp H
           obtain ⟨⟨t415, t416, t419, t422, t423⟩, A1280, H⟩ := H
           replace H : ((laws_eqFree.f kj75 t415 t416 t419 t363 t364 t367).bind fun t425 => (if t425 = true then (if t422 = t370 then (laws_FnExactTakeRoom.j2 kj75 t404 (t423 != t371) t381 t405 t406) else (laws_FnExactTakeRoom.j2 kj75 t404 true t381 t405 t406)) else (laws_FnExactTakeRoom.j2 kj75 t404 true t381 t405 t406))) = some r := H
           have A128 := aM A1280
           clear A1280
           have HC129 := aM H
           clear H
           have hnb130 := NB390_354.out
           have hnc130 := NB354_390.out
           have hnb131 := NB390_372.out
           have hnc131 := NB372_390.out
           have hnb132 := NB390_380.out
           have hnc132 := NB380_390.out
           have hcz133_0 : wc.cell? ⟨gb390, 0, none⟩ = some (.int .i64 t381) := yc BK390.out 0
           have hcz133_1 : wc.cell? ⟨gb390, 1, none⟩ = some (.slice Ao42 t382.length co42) := yc BK390.out 1
           have hcz133_2 : wc.cell? ⟨gb390, 2, none⟩ = some (.slice Ao43 t385.length co43) := yc BK390.out 2
           have hfz133_0 := yZ BK390.out 0
           have hfz133_1 := yZ BK390.out 1
           have hfz133_2 := yZ BK390.out 2
           go_upto_region 25 with (first | ((with_reducible refine gate_callee (f := 14) rfl ?_); refine goesL_ (some 91) rfl rfl Try.func14 (by kernel_rfl) rfl #[.agg #[.int .i64 t381, .slice Ao42 t382.length co42, .slice Ao43 t385.length co43], .int .i64 1] rfl (by (try simp only [List.map_toArray, List.map_cons, List.map_nil]); first | done | rfl | (simp only [List.length_drop, List.length_take]; rfl)) ?_; (with_reducible refine (laws_markFree.calls kj75 t381 (fun k_ => some k_ = oB Ao42 t382.length co42) (.slice Ao42 t382.length co42) t382 (fun k_ => some k_ = oB Ao43 t385.length co43) (.slice Ao43 t385.length co43) t385 1 t404 t405 t406 w _ ?side1 ?side2 ?side3 ?side4 ?side5 A116.out).mono ?_); (case side1 => repeat (first | (with_reducible first | exact HB.out | apply zA | apply zN | apply zD | refine zS ?_ GE354.out | refine zS ?_ GE372.out | refine zS ?_ GE380.out | refine zS ?_ GE390.out) | exact HB.out)); (case side2 => exact Kd.R_tight rfl p4'.out); (case side3 => exact fun k_ e_ => (p4'.out.1 k_ e_.symm).2.2.2.2); (case side4 => exact Kd.R_tight rfl p5'.out); (case side5 => exact fun k_ e_ => (p5'.out.1 k_ e_.symm).2.2.2.2); rintro e w134 ⟨rfl, hy0, hy1, hb, hkp⟩; refine ⟨_, rfl, ?_⟩; replace p0' := kB p0'.out hkp (fun k_ hk_ hs_ => Or.elim hs_ (fun e_ => (hk_.2.2.2.1) e_) (fun e_ => (hk_.2.2.2.2) e_)); replace p1' := kB p1'.out hkp (fun k_ hk_ hs_ => Or.elim hs_ (fun e_ => (hk_.2.2.2.1) e_) (fun e_ => (hk_.2.2.2.2) e_)); replace p2' := kB p2'.out hkp (fun k_ hk_ hs_ => Or.elim hs_ (fun e_ => (hk_.2.2.2.1) e_) (fun e_ => (hk_.2.2.2.2) e_)); replace p3' := kB p3'.out hkp (fun k_ hk_ hs_ => Or.elim hs_ (fun e_ => (hk_.2.2.2.1) e_) (fun e_ => (hk_.2.2.2.2) e_)); replace BK354 := aM (blk_kept BK354.out hkp (fun hs_ => Or.elim hs_ (fun e_ => (fun e_ => (Kd.R_ne p4'.out BK354.out (by decide)) e_) e_) (fun e_ => (fun e_ => (Kd.R_ne p5'.out BK354.out (by decide)) e_) e_))); replace BK372 := aM (blk_kept BK372.out hkp (fun hs_ => Or.elim hs_ (fun e_ => (fun e_ => (Kd.R_ne p4'.out BK372.out (by decide)) e_) e_) (fun e_ => (fun e_ => (Kd.R_ne p5'.out BK372.out (by decide)) e_) e_))); replace BK380 := aM (blk_kept BK380.out hkp (fun hs_ => Or.elim hs_ (fun e_ => (fun e_ => (Kd.R_ne p4'.out BK380.out (by decide)) e_) e_) (fun e_ => (fun e_ => (Kd.R_ne p5'.out BK380.out (by decide)) e_) e_))); replace BK390 := aM (blk_kept BK390.out hkp (fun hs_ => Or.elim hs_ (fun e_ => (fun e_ => (Kd.R_ne p4'.out BK390.out (by decide)) e_) e_) (fun e_ => (fun e_ => (Kd.R_ne p5'.out BK390.out (by decide)) e_) e_))); replace p4' := aM (Kd.R_reok rfl hy0 (fun k_ e_ => p4'.out.1 k_ e_)); replace p5' := aM (Kd.R_reok rfl hy1 (fun k_ e_ => p5'.out.1 k_ e_)); replace HB := aM (hb); (try clear hb); (try clear hkp); (try clear hy0); (try clear hy1); have hcz135_0 : w134.cell? ⟨gb390, 0, none⟩ = some (.int .i64 t381) := yc BK390.out 0; have hcz135_1 : w134.cell? ⟨gb390, 1, none⟩ = some (.slice Ao42 t382.length co42) := yc BK390.out 1; have hcz135_2 : w134.cell? ⟨gb390, 2, none⟩ = some (.slice Ao43 t385.length co43) := yc BK390.out 2; have hfz135_0 := yZ BK390.out 0; have hfz135_1 := yZ BK390.out 1; have hfz135_2 := yZ BK390.out 2) | ((with_reducible refine gate_callee (f := 15) rfl ?_); refine goesL_ (some 94) rfl rfl Try.func15 (by kernel_rfl) rfl #[.agg #[.int .i64 t381, .slice Ao42 t405.length co42, .slice Ao43 t406.length co43], .int .i64 1] rfl (by (try simp only [List.map_toArray, List.map_cons, List.map_nil]); first | done | (rw [show t405.length = t382.length from (Kd.R_reads' p4'.out).1.symm, show t406.length = t385.length from (Kd.R_reads' p5'.out).1.symm] <;> rfl) | rfl | (simp only [List.length_drop, List.length_take]; rfl)) ?_; (with_reducible refine (laws_heldFree.calls kj75 t381 _ _ t405 _ _ t406 1 t407 _ ?side1 ?side2 ?side3 ?side4 A117.out).mono ?_); (case side1 => repeat (first | exact (Kd.R_reads' p4'.out).2.2 | (with_reducible refine cA ?_ _) | (with_reducible refine cN ?_ _) | (with_reducible refine cD ?_))); (case side2 => rw [show t405.length = t382.length from (Kd.R_reads' p4'.out).1.symm]; exact (Kd.R_reads' p4'.out).2.1); (case side3 => repeat (first | exact (Kd.R_reads' p5'.out).2.2 | (with_reducible refine cA ?_ _) | (with_reducible refine cN ?_ _) | (with_reducible refine cD ?_))); (case side4 => rw [show t406.length = t385.length from (Kd.R_reads' p5'.out).1.symm]; exact (Kd.R_reads' p5'.out).2.1); rintro e w136 ⟨rfl, hb⟩; refine ⟨_, rfl, ?_⟩; replace p0' := xK p0'.out hb; replace p1' := xK p1'.out hb; replace p2' := xK p2'.out hb; replace p3' := xK p3'.out hb; replace p4' := xK p4'.out hb; replace p5' := xK p5'.out hb; replace BK354 := yK BK354.out hb; replace BK372 := yK BK372.out hb; replace BK380 := yK BK380.out hb; replace BK390 := yK BK390.out hb; replace HB := aM (zT (zH HB.out) hb); (try clear hb); have hnb137 := NB354_372.out; have hnc137 := NB372_354.out; have hnb138 := NB354_380.out; have hnc138 := NB380_354.out; have hcz139_0 : w136.cell? ⟨gb354, 0, none⟩ = some (.int .i64 a0_0) := yc BK354.out 0; have hcz139_1 : w136.cell? ⟨gb354, 1, none⟩ = some (.slice A0_1 l0_1.length c0_1) := yc BK354.out 1; have hcz139_2 : w136.cell? ⟨gb354, 2, none⟩ = some (.slice A0_2 l0_2.length c0_2) := yc BK354.out 2; have hfz139_0 := yZ BK354.out 0; have hfz139_1 := yZ BK354.out 1; have hfz139_2 := yZ BK354.out 2) | ((with_reducible refine gate_callee (f := 18) rfl ?_); refine goesL_ (some 102) rfl rfl Try.func18 (by kernel_rfl) rfl #[.agg #[.int .i64 a0_0, .slice A0_1 l0_1.length c0_1, .slice A0_2 l0_2.length c0_2]] rfl (by (try simp only [List.map_toArray, List.map_cons, List.map_nil]); first | done | rfl | (simp only [List.length_drop, List.length_take]; rfl)) ?_; (with_reducible refine (laws_toFree.calls kj75 a0_0 _ _ l0_1 _ _ l0_2 t408 t409 t412 _ ?side1 ?side2 ?side3 ?side4 A127.out).mono ?_); (case side1 => exact cK HR0_1.out HB.out); (case side2 => exact HC0_1.out); (case side3 => exact cK HR0_2.out HB.out); (case side4 => exact HC0_2.out); rintro e w140 ⟨v410, v413, rfl, ho0, ho1, hb⟩; refine ⟨_, rfl, ?_⟩; have HO411 := aM (xL (Kd.R_new' (Kd.R_new' (Kd.R_new' (Kd.R_new' (Kd.R_new' (Kd.R_new' ho0 (Kd.R_lt (xH p0'.out))) (Kd.R_lt (xH p1'.out))) (Kd.R_lt (xH p2'.out))) (Kd.R_lt (xH p3'.out))) (Kd.R_lt (xH p4'.out))) (Kd.R_lt (xH p5'.out))) (zZ (zH HB.out))); have HO414 := aM (xL (Kd.R_new' (Kd.R_new' (Kd.R_new' (Kd.R_new' (Kd.R_new' (Kd.R_new' ho1 (Kd.R_lt (xH p0'.out))) (Kd.R_lt (xH p1'.out))) (Kd.R_lt (xH p2'.out))) (Kd.R_lt (xH p3'.out))) (Kd.R_lt (xH p4'.out))) (Kd.R_lt (xH p5'.out))) (zZ (zH HB.out))); replace p0' := aM (xM (Kd.R_told (Kd.R_told (Kd.R_old (xH p0'.out) hb) (Kd.R_base ho0)) (Kd.R_base ho1)) (fun _ h_ => h_.1)); replace p1' := aM (xM (Kd.R_told (Kd.R_told (Kd.R_old (xH p1'.out) hb) (Kd.R_base ho0)) (Kd.R_base ho1)) (fun _ h_ => h_.1)); replace p2' := aM (xM (Kd.R_told (Kd.R_told (Kd.R_old (xH p2'.out) hb) (Kd.R_base ho0)) (Kd.R_base ho1)) (fun _ h_ => h_.1)); replace p3' := aM (xM (Kd.R_told (Kd.R_told (Kd.R_old (xH p3'.out) hb) (Kd.R_base ho0)) (Kd.R_base ho1)) (fun _ h_ => h_.1)); replace p4' := aM (xM (Kd.R_told (Kd.R_told (Kd.R_old (xH p4'.out) hb) (Kd.R_base ho0)) (Kd.R_base ho1)) (fun _ h_ => h_.1)); replace p5' := aM (xM (Kd.R_told (Kd.R_told (Kd.R_old (xH p5'.out) hb) (Kd.R_base ho0)) (Kd.R_base ho1)) (fun _ h_ => h_.1)); replace BK354 := yK BK354.out hb; replace BK372 := yK BK372.out hb; replace BK380 := yK BK380.out hb; replace BK390 := yK BK390.out hb; replace HB := aM (zT (zH HB.out) hb); (try clear hb); (try clear ho0); (try clear ho1); obtain ⟨Ao141, co141, eo141⟩ := Kd.R_slice HO411.out; subst eo141; obtain ⟨Ao142, co142, eo142⟩ := Kd.R_slice HO414.out; subst eo142) | ((with_reducible refine gate_callee (f := 35) rfl ?_); refine goesL_ (some 106) rfl rfl Try.func35 (by kernel_rfl) rfl #[.agg #[.int .i64 t408, .slice Ao141 t409.length co141, .slice Ao142 t412.length co142], .int .i64 a1, .int .i64 a2, .int .i64 a3] rfl (by (try simp only [List.map_toArray, List.map_cons, List.map_nil]); first | done | rfl | (simp only [List.length_drop, List.length_take]; rfl)) ?_; (with_reducible refine (impl_TakeRoom.calls kj75 t408 _ _ t409 _ _ t412 a1 a2 a3 t415 t416 t419 t422 t423 _ ?side1 ?side2 ?side3 ?side4 A128.out).mono ?_); (case side1 => repeat (first | exact (Kd.R_reads' HO411.out).2.2 | (with_reducible refine cA ?_ _) | (with_reducible refine cN ?_ _) | (with_reducible refine cD ?_))); (case side2 => exact (Kd.R_reads' HO411.out).2.1); (case side3 => repeat (first | exact (Kd.R_reads' HO414.out).2.2 | (with_reducible refine cA ?_ _) | (with_reducible refine cN ?_ _) | (with_reducible refine cD ?_))); (case side4 => exact (Kd.R_reads' HO414.out).2.1); rintro e w143 ⟨v417, v420, rfl, ho0, ho1, hb⟩; refine ⟨_, rfl, ?_⟩; have HO418 := aM (xL (Kd.R_new' (Kd.R_new' (Kd.R_new' (Kd.R_new' (Kd.R_new' (Kd.R_new' (Kd.R_new' (Kd.R_new' ho0 (Kd.R_lt (xH p0'.out))) (Kd.R_lt (xH p1'.out))) (Kd.R_lt (xH p2'.out))) (Kd.R_lt (xH p3'.out))) (Kd.R_lt (xH p4'.out))) (Kd.R_lt (xH p5'.out))) (Kd.R_lt (xH HO411.out))) (Kd.R_lt (xH HO414.out))) (zZ (zH HB.out))); have HO421 := aM (xL (Kd.R_new' (Kd.R_new' (Kd.R_new' (Kd.R_new' (Kd.R_new' (Kd.R_new' (Kd.R_new' (Kd.R_new' ho1 (Kd.R_lt (xH p0'.out))) (Kd.R_lt (xH p1'.out))) (Kd.R_lt (xH p2'.out))) (Kd.R_lt (xH p3'.out))) (Kd.R_lt (xH p4'.out))) (Kd.R_lt (xH p5'.out))) (Kd.R_lt (xH HO411.out))) (Kd.R_lt (xH HO414.out))) (zZ (zH HB.out))); replace p0' := aM (xM (Kd.R_told (Kd.R_told (Kd.R_old (xH p0'.out) hb) (Kd.R_base ho0)) (Kd.R_base ho1)) (fun _ h_ => h_.1)); replace p1' := aM (xM (Kd.R_told (Kd.R_told (Kd.R_old (xH p1'.out) hb) (Kd.R_base ho0)) (Kd.R_base ho1)) (fun _ h_ => h_.1)); replace p2' := aM (xM (Kd.R_told (Kd.R_told (Kd.R_old (xH p2'.out) hb) (Kd.R_base ho0)) (Kd.R_base ho1)) (fun _ h_ => h_.1)); replace p3' := aM (xM (Kd.R_told (Kd.R_told (Kd.R_old (xH p3'.out) hb) (Kd.R_base ho0)) (Kd.R_base ho1)) (fun _ h_ => h_.1)); replace p4' := aM (xM (Kd.R_told (Kd.R_told (Kd.R_old (xH p4'.out) hb) (Kd.R_base ho0)) (Kd.R_base ho1)) (fun _ h_ => h_.1)); replace p5' := aM (xM (Kd.R_told (Kd.R_told (Kd.R_old (xH p5'.out) hb) (Kd.R_base ho0)) (Kd.R_base ho1)) (fun _ h_ => h_.1)); replace HO411 := aM (xM (Kd.R_told (Kd.R_told (Kd.R_old (xH HO411.out) hb) (Kd.R_base ho0)) (Kd.R_base ho1)) (fun _ h_ => h_.1)); replace HO414 := aM (xM (Kd.R_told (Kd.R_told (Kd.R_old (xH HO414.out) hb) (Kd.R_base ho0)) (Kd.R_base ho1)) (fun _ h_ => h_.1)); replace BK354 := yK BK354.out hb; replace BK372 := yK BK372.out hb; replace BK380 := yK BK380.out hb; replace BK390 := yK BK390.out hb; replace HB := aM (zT (zH HB.out) hb); (try clear hb); (try clear ho0); (try clear ho1)) | ((with_reducible refine gate_dst (N := 20) rfl ?_); refine box_event ?hg (N := 20) ?hd (cs := #[.int .i64 0, .slice none 0 0, .slice none 0 0]) (t := 24) ?hr ?_; (case hd => rfl); (case hg => rfl); (case hr => first | (go_simp; done) | (go_simp; rfl)); intro gb424 hg w144 hbox hb; replace p0' := xK p0'.out hb; replace p1' := xK p1'.out hb; replace p2' := xK p2'.out hb; replace p3' := xK p3'.out hb; replace p4' := xK p4'.out hb; replace p5' := xK p5'.out hb; replace HO411 := xK HO411.out hb; replace HO414 := xK HO414.out hb; replace HO418 := xK HO418.out hb; replace HO421 := xK HO421.out hb; have BK424 := aM (hbox); have GW424 := aM ((by rw [hg]; exact (zZ (zH HB.out)) : w.heap.size ≤ gb424)); have GE424 := aM ((by rw [hg]; exact (zZ (zH HB.out)) : w.heap.size ≤ gb424)); replace HB := aM (zT (zH HB.out) hb); have NB354_424 := nL BK354.out hg; have NB424_354 := nR BK354.out hg; replace BK354 := yK BK354.out hb; have NB372_424 := nL BK372.out hg; have NB424_372 := nR BK372.out hg; replace BK372 := yK BK372.out hb; have NB380_424 := nL BK380.out hg; have NB424_380 := nR BK380.out hg; replace BK380 := yK BK380.out hb; have NB390_424 := nL BK390.out hg; have NB424_390 := nR BK390.out hg; replace BK390 := yK BK390.out hb; clear hb hbox hg; have hnb145 := NB424_354.out; have hnc145 := NB354_424.out; have hnb146 := NB424_372.out; have hnc146 := NB372_424.out; have hnb147 := NB424_380.out; have hnc147 := NB380_424.out; have hnb148 := NB424_390.out; have hnc148 := NB390_424.out; have hcz149_0 : w144.cell? ⟨gb424, 0, none⟩ = some (.int .i64 0) := yc BK424.out 0; have hcz149_1 : w144.cell? ⟨gb424, 1, none⟩ = some (.slice none 0 0) := yc BK424.out 1; have hcz149_2 : w144.cell? ⟨gb424, 2, none⟩ = some (.slice none 0 0) := yc BK424.out 2; have hfz149_0 := yZ BK424.out 0; have hfz149_1 := yZ BK424.out 1; have hfz149_2 := yZ BK424.out 2; obtain ⟨Ao150, co150, eo150⟩ := Kd.R_slice HO418.out; subst eo150; obtain ⟨Ao151, co151, eo151⟩ := Kd.R_slice HO421.out; subst eo151))
           (try simp only [Act.put, qA, qB, qC])
           go_cut [123] (fun v123 wc => ∃ (kq : Nat) (x123_128 : Bool), v123 = .bool x123_128 ∧ Aside0 (laws_FnExactTakeRoom.j2 kq t404 x123_128 t381 t405 t406 = some r) ∧ Aside0 (kq ≤ kj75) ∧ Aside0 (Kd.R k49 49 wc w.heap.size (fun k_ => some k_ ≠ oB Ao27 t367.length co27 ∧ some k_ ≠ oB Ao34 t401.length co34 ∧ some k_ ≠ oB Ao35 t402.length co35 ∧ some k_ ≠ oB Ao42 t382.length co42 ∧ some k_ ≠ oB Ao43 t385.length co43 ∧ some k_ ≠ oB Ao150 t416.length co150 ∧ some k_ ≠ oB Ao151 t419.length co151) (.slice Ao26 t364.length co26) t364) ∧ Aside0 (Kd.R k49 49 wc w.heap.size (fun k_ => some k_ ≠ oB Ao26 t364.length co26 ∧ some k_ ≠ oB Ao34 t401.length co34 ∧ some k_ ≠ oB Ao35 t402.length co35 ∧ some k_ ≠ oB Ao42 t382.length co42 ∧ some k_ ≠ oB Ao43 t385.length co43 ∧ some k_ ≠ oB Ao150 t416.length co150 ∧ some k_ ≠ oB Ao151 t419.length co151) (.slice Ao27 t367.length co27) t367) ∧ Aside0 (Kd.R k49 49 wc w.heap.size (fun k_ => some k_ ≠ oB Ao26 t364.length co26 ∧ some k_ ≠ oB Ao27 t367.length co27 ∧ some k_ ≠ oB Ao35 t402.length co35 ∧ some k_ ≠ oB Ao42 t382.length co42 ∧ some k_ ≠ oB Ao43 t385.length co43 ∧ some k_ ≠ oB Ao150 t416.length co150 ∧ some k_ ≠ oB Ao151 t419.length co151) (.slice Ao34 t401.length co34) t401) ∧ Aside0 (Kd.R k49 49 wc w.heap.size (fun k_ => some k_ ≠ oB Ao26 t364.length co26 ∧ some k_ ≠ oB Ao27 t367.length co27 ∧ some k_ ≠ oB Ao34 t401.length co34 ∧ some k_ ≠ oB Ao42 t382.length co42 ∧ some k_ ≠ oB Ao43 t385.length co43 ∧ some k_ ≠ oB Ao150 t416.length co150 ∧ some k_ ≠ oB Ao151 t419.length co151) (.slice Ao35 t402.length co35) t402) ∧ Aside0 (Kd.R k49 49 wc w.heap.size (fun k_ => some k_ ≠ oB Ao26 t364.length co26 ∧ some k_ ≠ oB Ao27 t367.length co27 ∧ some k_ ≠ oB Ao34 t401.length co34 ∧ some k_ ≠ oB Ao35 t402.length co35 ∧ some k_ ≠ oB Ao43 t385.length co43 ∧ some k_ ≠ oB Ao150 t416.length co150 ∧ some k_ ≠ oB Ao151 t419.length co151) (.slice Ao42 t382.length co42) t405) ∧ Aside0 (Kd.R k49 49 wc w.heap.size (fun k_ => some k_ ≠ oB Ao26 t364.length co26 ∧ some k_ ≠ oB Ao27 t367.length co27 ∧ some k_ ≠ oB Ao34 t401.length co34 ∧ some k_ ≠ oB Ao35 t402.length co35 ∧ some k_ ≠ oB Ao42 t382.length co42 ∧ some k_ ≠ oB Ao150 t416.length co150 ∧ some k_ ≠ oB Ao151 t419.length co151) (.slice Ao43 t385.length co43) t406) ∧ Aside0 (Kd.R k49 49 wc w.heap.size (fun k_ => some k_ ≠ oB Ao26 t364.length co26 ∧ some k_ ≠ oB Ao27 t367.length co27 ∧ some k_ ≠ oB Ao34 t401.length co34 ∧ some k_ ≠ oB Ao35 t402.length co35 ∧ some k_ ≠ oB Ao42 t382.length co42 ∧ some k_ ≠ oB Ao43 t385.length co43 ∧ some k_ ≠ oB Ao151 t419.length co151) (.slice Ao150 t416.length co150) t416) ∧ Aside0 (Kd.R k49 49 wc w.heap.size (fun k_ => some k_ ≠ oB Ao26 t364.length co26 ∧ some k_ ≠ oB Ao27 t367.length co27 ∧ some k_ ≠ oB Ao34 t401.length co34 ∧ some k_ ≠ oB Ao35 t402.length co35 ∧ some k_ ≠ oB Ao42 t382.length co42 ∧ some k_ ≠ oB Ao43 t385.length co43 ∧ some k_ ≠ oB Ao150 t416.length co150) (.slice Ao151 t419.length co151) t419) ∧ Aside0 (wc.heap[gb354]? = some (.cells #[.int .i64 a0_0, (.slice A0_1 l0_1.length c0_1), (.slice A0_2 l0_2.length c0_2)] 32 (0, 0))) ∧ Aside0 (wc.heap[gb372]? = some (.cells #[.int .i64 t363, (.slice Ao26 t364.length co26), (.slice Ao27 t367.length co27)] 24 (0, 0))) ∧ Aside0 (wc.heap[gb380]? = some (.cells #[.int .i64 t373, (.slice Ao34 t401.length co34), (.slice Ao35 t402.length co35)] 24 (0, 0))) ∧ Aside0 (wc.heap[gb390]? = some (.cells #[.int .i64 t381, (.slice Ao42 t382.length co42), (.slice Ao43 t385.length co43)] 24 (0, 0))) ∧ Aside0 (wc.heap[gb424]? = some (.cells #[.int .i64 t415, (.slice Ao150 t416.length co150), (.slice Ao151 t419.length co151)] 24 (0, 0))) ∧ Aside0 (Below w.heap.size w wc))
           case first =>
            have H := HC129.out
            clear HC129
            replace H := Option.bind_eq_some_iff.mp H
            obtain ⟨t425, A1520, H⟩ := H
            replace H : (if t425 = true then (if t422 = t370 then (laws_FnExactTakeRoom.j2 kj75 t404 (t423 != t371) t381 t405 t406) else (laws_FnExactTakeRoom.j2 kj75 t404 true t381 t405 t406)) else (laws_FnExactTakeRoom.j2 kj75 t404 true t381 t405 t406)) = some r := H
            have A152 := aM A1520
            clear A1520
            by_cases c153 : t425 = true
            ·subst c153
             have H1 : (if t422 = t370 then (laws_FnExactTakeRoom.j2 kj75 t404 (t423 != t371) t381 t405 t406) else (laws_FnExactTakeRoom.j2 kj75 t404 true t381 t405 t406)) = some r := by rw [if_pos rfl] at H; exact H
             clear H
             have H := H1
             clear H1
             by_cases c154 : t422 = t370
             ·rw [if_pos c154] at H
              have c154b0 : (t422 == t370) = true := beq_iff_eq.mpr c154
              have c154b1 : (t422 != t370) = false := bne_eq_false_iff_eq.mpr c154
              clear c154
              (first | rw [c154b0] | (simp only [i64_w, i32_w]; rw [c154b0]) | skip)
              have H' := aM H
              clear H
              have hnb155 := NB424_354.out
              have hnc155 := NB354_424.out
              have hnb156 := NB424_372.out
              have hnc156 := NB372_424.out
              have hnb157 := NB424_380.out
              have hnc157 := NB380_424.out
              have hnb158 := NB424_390.out
              have hnc158 := NB390_424.out
              have hcz159_0 : w144.cell? ⟨gb424, 0, none⟩ = some (.int .i64 0) := yc BK424.out 0
              have hcz159_1 : w144.cell? ⟨gb424, 1, none⟩ = some (.slice none 0 0) := yc BK424.out 1
              have hcz159_2 : w144.cell? ⟨gb424, 2, none⟩ = some (.slice none 0 0) := yc BK424.out 2
              have hfz159_0 := yZ BK424.out 0
              have hfz159_1 := yZ BK424.out 1
              have hfz159_2 := yZ BK424.out 2
              have hnb160 := NB372_354.out
              have hnc160 := NB354_372.out
              have hnb161 := NB372_380.out
              have hnc161 := NB380_372.out
              have hnb162 := NB372_390.out
              have hnc162 := NB390_372.out
              have hcz163_0 : w144.cell? ⟨gb372, 0, none⟩ = some (.int .i64 t363) := yc BK372.out 0
              have hcz163_1 : w144.cell? ⟨gb372, 1, none⟩ = some (.slice Ao26 t364.length co26) := yc BK372.out 1
              have hcz163_2 : w144.cell? ⟨gb372, 2, none⟩ = some (.slice Ao27 t367.length co27) := yc BK372.out 2
              have hfz163_0 := yZ BK372.out 0
              have hfz163_1 := yZ BK372.out 1
              have hfz163_2 := yZ BK372.out 2
              go_wp2_with (first | ((with_reducible refine gate_callee (f := 13) rfl ?_); refine goesL_ (some 112) rfl rfl Try.func13 (by kernel_rfl) rfl #[.agg #[.int .i64 t415, .slice Ao150 t416.length co150, .slice Ao151 t419.length co151], .agg #[.int .i64 t363, .slice Ao26 t364.length co26, .slice Ao27 t367.length co27]] rfl (by (try simp only [List.map_toArray, List.map_cons, List.map_nil]); first | done | rfl | (simp only [List.length_drop, List.length_take]; rfl)) ?_; (with_reducible refine (laws_eqFree.calls kj75 t415 _ _ t416 _ _ t419 t363 _ _ t364 _ _ t367 true _ ?side1 ?side2 ?side3 ?side4 ?side5 ?side6 ?side7 ?side8 A152.out).mono ?_); (case side1 => exact rC (n := t416.length) (c := co150) ((x3 HO418.out BK424.out (by decide) (.int .i64 t415) (.slice Ao150 t416.length co150) (.slice Ao151 t419.length co151)))); (case side2 => exact (Kd.R_reads' HO418.out).2.1); (case side3 => exact rC (n := t419.length) (c := co151) ((x3 HO421.out BK424.out (by decide) (.int .i64 t415) (.slice Ao150 t416.length co150) (.slice Ao151 t419.length co151)))); (case side4 => exact (Kd.R_reads' HO421.out).2.1); (case side5 => exact rC (n := t364.length) (c := co26) ((x3 p0'.out BK424.out (by decide) (.int .i64 t415) (.slice Ao150 t416.length co150) (.slice Ao151 t419.length co151)))); (case side6 => exact (Kd.R_reads' p0'.out).2.1); (case side7 => exact rC (n := t367.length) (c := co27) ((x3 p1'.out BK424.out (by decide) (.int .i64 t415) (.slice Ao150 t416.length co150) (.slice Ao151 t419.length co151)))); (case side8 => exact (Kd.R_reads' p1'.out).2.1); rintro e w164 ⟨rfl, hb⟩; refine ⟨_, rfl, ?_⟩; replace p0' := aM (xB (xH ((x3 p0'.out BK424.out (by decide) (.int .i64 t415) (.slice Ao150 t416.length co150) (.slice Ao151 t419.length co151)))) hb); replace p1' := aM (xB (xH ((x3 p1'.out BK424.out (by decide) (.int .i64 t415) (.slice Ao150 t416.length co150) (.slice Ao151 t419.length co151)))) hb); replace p2' := aM (xB (xH ((x3 p2'.out BK424.out (by decide) (.int .i64 t415) (.slice Ao150 t416.length co150) (.slice Ao151 t419.length co151)))) hb); replace p3' := aM (xB (xH ((x3 p3'.out BK424.out (by decide) (.int .i64 t415) (.slice Ao150 t416.length co150) (.slice Ao151 t419.length co151)))) hb); replace p4' := aM (xB (xH ((x3 p4'.out BK424.out (by decide) (.int .i64 t415) (.slice Ao150 t416.length co150) (.slice Ao151 t419.length co151)))) hb); replace p5' := aM (xB (xH ((x3 p5'.out BK424.out (by decide) (.int .i64 t415) (.slice Ao150 t416.length co150) (.slice Ao151 t419.length co151)))) hb); replace HO411 := aM (xB (xH ((x3 HO411.out BK424.out (by decide) (.int .i64 t415) (.slice Ao150 t416.length co150) (.slice Ao151 t419.length co151)))) hb); replace HO414 := aM (xB (xH ((x3 HO414.out BK424.out (by decide) (.int .i64 t415) (.slice Ao150 t416.length co150) (.slice Ao151 t419.length co151)))) hb); replace HO418 := aM (xB (xH ((x3 HO418.out BK424.out (by decide) (.int .i64 t415) (.slice Ao150 t416.length co150) (.slice Ao151 t419.length co151)))) hb); replace HO421 := aM (xB (xH ((x3 HO421.out BK424.out (by decide) (.int .i64 t415) (.slice Ao150 t416.length co150) (.slice Ao151 t419.length co151)))) hb); replace BK354 := aM (yB (g := gb354) (o := .cells #[.int .i64 a0_0, .slice A0_1 l0_1.length c0_1, .slice A0_2 l0_2.length c0_2] 32 (0, 0)) (by (with_reducible repeat (first | refine yN ?_ _ | refine yD ?_ | refine yA ?_ _)); refine yF ?_ NB354_424.out _; (with_reducible repeat (first | refine yN ?_ _ | refine yD ?_ | refine yA ?_ _)); refine yF ?_ NB354_424.out _; (with_reducible repeat (first | refine yN ?_ _ | refine yD ?_ | refine yA ?_ _)); refine yF ?_ NB354_424.out _; (with_reducible repeat (first | refine yN ?_ _ | refine yD ?_ | refine yA ?_ _)); exact BK354.out) hb); replace BK372 := aM (yB (g := gb372) (o := .cells #[.int .i64 t363, .slice Ao26 t364.length co26, .slice Ao27 t367.length co27] 24 (0, 0)) (by (with_reducible repeat (first | refine yN ?_ _ | refine yD ?_ | refine yA ?_ _)); refine yF ?_ NB372_424.out _; (with_reducible repeat (first | refine yN ?_ _ | refine yD ?_ | refine yA ?_ _)); refine yF ?_ NB372_424.out _; (with_reducible repeat (first | refine yN ?_ _ | refine yD ?_ | refine yA ?_ _)); refine yF ?_ NB372_424.out _; (with_reducible repeat (first | refine yN ?_ _ | refine yD ?_ | refine yA ?_ _)); exact BK372.out) hb); replace BK380 := aM (yB (g := gb380) (o := .cells #[.int .i64 t373, .slice Ao34 t401.length co34, .slice Ao35 t402.length co35] 24 (0, 0)) (by (with_reducible repeat (first | refine yN ?_ _ | refine yD ?_ | refine yA ?_ _)); refine yF ?_ NB380_424.out _; (with_reducible repeat (first | refine yN ?_ _ | refine yD ?_ | refine yA ?_ _)); refine yF ?_ NB380_424.out _; (with_reducible repeat (first | refine yN ?_ _ | refine yD ?_ | refine yA ?_ _)); refine yF ?_ NB380_424.out _; (with_reducible repeat (first | refine yN ?_ _ | refine yD ?_ | refine yA ?_ _)); exact BK380.out) hb); replace BK390 := aM (yB (g := gb390) (o := .cells #[.int .i64 t381, .slice Ao42 t382.length co42, .slice Ao43 t385.length co43] 24 (0, 0)) (by (with_reducible repeat (first | refine yN ?_ _ | refine yD ?_ | refine yA ?_ _)); refine yF ?_ NB390_424.out _; (with_reducible repeat (first | refine yN ?_ _ | refine yD ?_ | refine yA ?_ _)); refine yF ?_ NB390_424.out _; (with_reducible repeat (first | refine yN ?_ _ | refine yD ?_ | refine yA ?_ _)); refine yF ?_ NB390_424.out _; (with_reducible repeat (first | refine yN ?_ _ | refine yD ?_ | refine yA ?_ _)); exact BK390.out) hb); replace BK424 := aM (yB (g := gb424) (o := .cells #[.int .i64 t415, .slice Ao150 t416.length co150, .slice Ao151 t419.length co151] 24 (0, 0)) (by (with_reducible repeat (first | refine yN ?_ _ | refine yD ?_ | refine yA ?_ _)); refine yP (cs := #[.int .i64 t415, .slice Ao150 t416.length co150, .slice none 0 0]) ?_ 2 _ rfl; (with_reducible repeat (first | refine yN ?_ _ | refine yD ?_ | refine yA ?_ _)); refine yP (cs := #[.int .i64 t415, .slice none 0 0, .slice none 0 0]) ?_ 1 _ rfl; (with_reducible repeat (first | refine yN ?_ _ | refine yD ?_ | refine yA ?_ _)); refine yP (cs := #[.int .i64 0, .slice none 0 0, .slice none 0 0]) ?_ 0 _ rfl; (with_reducible repeat (first | refine yN ?_ _ | refine yD ?_ | refine yA ?_ _)); exact BK424.out) hb); replace HB := aM (zT (zH HB.out) hb); (try clear hb)))
              go_meet
              case rel => exact ⟨_, ((t423 != t371)), (by first | rfl | (simp; done) | (simp [*]; done)), H', ⟨by have := HJ13.out; have := HJ75.out; first | omega | exact Nat.le_refl _⟩, ⟨by (try simp only [hl381001_75]); (try simp only [hl381002_75]); (with_reducible repeat (first | apply xA | apply xN | apply xD)); exact xM p0'.out (fun _ hk => ⟨hk.1.1.1.1.1, ⟨hk.1.1.1.1.2.1, ⟨hk.1.1.1.1.2.2.1, ⟨hk.1.1.1.1.2.2.2.1, ⟨hk.1.1.1.1.2.2.2.2, ⟨hk.1.2, hk.2⟩⟩⟩⟩⟩⟩)⟩, ⟨by (try simp only [hl381001_75]); (try simp only [hl381002_75]); (with_reducible repeat (first | apply xA | apply xN | apply xD)); exact xM p1'.out (fun _ hk => ⟨hk.1.1.1.1.1, ⟨hk.1.1.1.1.2.1, ⟨hk.1.1.1.1.2.2.1, ⟨hk.1.1.1.1.2.2.2.1, ⟨hk.1.1.1.1.2.2.2.2, ⟨hk.1.2, hk.2⟩⟩⟩⟩⟩⟩)⟩, ⟨by (try simp only [hl381001_75]); (try simp only [hl381002_75]); (with_reducible repeat (first | apply xA | apply xN | apply xD)); exact xM p2'.out (fun _ hk => ⟨hk.1.1.1.1.1, ⟨hk.1.1.1.1.2.1, ⟨hk.1.1.1.1.2.2.1, ⟨hk.1.1.1.1.2.2.2.1, ⟨hk.1.1.1.1.2.2.2.2, ⟨hk.1.2, hk.2⟩⟩⟩⟩⟩⟩)⟩, ⟨by (try simp only [hl381001_75]); (try simp only [hl381002_75]); (with_reducible repeat (first | apply xA | apply xN | apply xD)); exact xM p3'.out (fun _ hk => ⟨hk.1.1.1.1.1, ⟨hk.1.1.1.1.2.1, ⟨hk.1.1.1.1.2.2.1, ⟨hk.1.1.1.1.2.2.2.1, ⟨hk.1.1.1.1.2.2.2.2, ⟨hk.1.2, hk.2⟩⟩⟩⟩⟩⟩)⟩, ⟨by (try simp only [hl381001_75]); (try simp only [hl381002_75]); (with_reducible repeat (first | apply xA | apply xN | apply xD)); exact xM p4'.out (fun _ hk => ⟨hk.1.1.1.1.1, ⟨hk.1.1.1.1.2.1, ⟨hk.1.1.1.1.2.2.1, ⟨hk.1.1.1.1.2.2.2.1, ⟨hk.1.1.1.1.2.2.2.2, ⟨hk.1.2, hk.2⟩⟩⟩⟩⟩⟩)⟩, ⟨by (try simp only [hl381001_75]); (try simp only [hl381002_75]); (with_reducible repeat (first | apply xA | apply xN | apply xD)); exact xM p5'.out (fun _ hk => ⟨hk.1.1.1.1.1, ⟨hk.1.1.1.1.2.1, ⟨hk.1.1.1.1.2.2.1, ⟨hk.1.1.1.1.2.2.2.1, ⟨hk.1.1.1.1.2.2.2.2, ⟨hk.1.2, hk.2⟩⟩⟩⟩⟩⟩)⟩, ⟨by (try simp only [hl381001_75]); (try simp only [hl381002_75]); (with_reducible repeat (first | apply xA | apply xN | apply xD)); exact xM HO418.out (fun _ hk => ⟨hk.1.1.1.1.1.1.1.2, ⟨hk.1.1.1.1.1.1.2, ⟨hk.1.1.1.1.1.2, ⟨hk.1.1.1.1.2, ⟨hk.1.1.1.2, ⟨hk.1.1.2, hk.1.1.1.1.1.1.1.1⟩⟩⟩⟩⟩⟩)⟩, ⟨by (try simp only [hl381001_75]); (try simp only [hl381002_75]); (with_reducible repeat (first | apply xA | apply xN | apply xD)); exact xM HO421.out (fun _ hk => ⟨hk.1.1.1.1.1.1.1.2, ⟨hk.1.1.1.1.1.1.2, ⟨hk.1.1.1.1.1.2, ⟨hk.1.1.1.1.2, ⟨hk.1.1.1.2, ⟨hk.1.1.2, hk.1.1.1.1.1.1.1.1⟩⟩⟩⟩⟩⟩)⟩, ⟨by (try simp only [hl381001_75]); (try simp only [hl381002_75]); (with_reducible repeat (first | refine yN ?_ _ | refine yD ?_ | refine yA ?_ _)); exact BK354.out⟩, ⟨by (try simp only [hl381001_75]); (try simp only [hl381002_75]); (with_reducible repeat (first | refine yN ?_ _ | refine yD ?_ | refine yA ?_ _)); exact BK372.out⟩, ⟨by (try simp only [hl381001_75]); (try simp only [hl381002_75]); (with_reducible repeat (first | refine yN ?_ _ | refine yD ?_ | refine yA ?_ _)); exact BK380.out⟩, ⟨by (try simp only [hl381001_75]); (try simp only [hl381002_75]); (with_reducible repeat (first | refine yN ?_ _ | refine yD ?_ | refine yA ?_ _)); exact BK390.out⟩, ⟨by (try simp only [hl381001_75]); (try simp only [hl381002_75]); (with_reducible repeat (first | refine yN ?_ _ | refine yD ?_ | refine yA ?_ _)); exact BK424.out⟩, ⟨zH HB.out⟩⟩
             ·rw [if_neg c154] at H
              have c154b0 : (t422 == t370) = false := beq_eq_false_iff_ne.mpr c154
              have c154b1 : (t422 != t370) = true := bne_iff_ne.mpr c154
              (first | rw [c154b0] | (simp only [i64_w, i32_w]; rw [c154b0]) | skip)
              have H' := aM H
              clear H
              have hnb165 := NB424_354.out
              have hnc165 := NB354_424.out
              have hnb166 := NB424_372.out
              have hnc166 := NB372_424.out
              have hnb167 := NB424_380.out
              have hnc167 := NB380_424.out
              have hnb168 := NB424_390.out
              have hnc168 := NB390_424.out
              have hcz169_0 : w144.cell? ⟨gb424, 0, none⟩ = some (.int .i64 0) := yc BK424.out 0
              have hcz169_1 : w144.cell? ⟨gb424, 1, none⟩ = some (.slice none 0 0) := yc BK424.out 1
              have hcz169_2 : w144.cell? ⟨gb424, 2, none⟩ = some (.slice none 0 0) := yc BK424.out 2
              have hfz169_0 := yZ BK424.out 0
              have hfz169_1 := yZ BK424.out 1
              have hfz169_2 := yZ BK424.out 2
              have hnb170 := NB372_354.out
              have hnc170 := NB354_372.out
              have hnb171 := NB372_380.out
              have hnc171 := NB380_372.out
              have hnb172 := NB372_390.out
              have hnc172 := NB390_372.out
              have hcz173_0 : w144.cell? ⟨gb372, 0, none⟩ = some (.int .i64 t363) := yc BK372.out 0
              have hcz173_1 : w144.cell? ⟨gb372, 1, none⟩ = some (.slice Ao26 t364.length co26) := yc BK372.out 1
              have hcz173_2 : w144.cell? ⟨gb372, 2, none⟩ = some (.slice Ao27 t367.length co27) := yc BK372.out 2
              have hfz173_0 := yZ BK372.out 0
              have hfz173_1 := yZ BK372.out 1
              have hfz173_2 := yZ BK372.out 2
              go_wp2_with (first | ((with_reducible refine gate_callee (f := 13) rfl ?_); refine goesL_ (some 112) rfl rfl Try.func13 (by kernel_rfl) rfl #[.agg #[.int .i64 t415, .slice Ao150 t416.length co150, .slice Ao151 t419.length co151], .agg #[.int .i64 t363, .slice Ao26 t364.length co26, .slice Ao27 t367.length co27]] rfl (by (try simp only [List.map_toArray, List.map_cons, List.map_nil]); first | done | rfl | (simp only [List.length_drop, List.length_take]; rfl)) ?_; (with_reducible refine (laws_eqFree.calls kj75 t415 _ _ t416 _ _ t419 t363 _ _ t364 _ _ t367 true _ ?side1 ?side2 ?side3 ?side4 ?side5 ?side6 ?side7 ?side8 A152.out).mono ?_); (case side1 => exact rC (n := t416.length) (c := co150) ((x3 HO418.out BK424.out (by decide) (.int .i64 t415) (.slice Ao150 t416.length co150) (.slice Ao151 t419.length co151)))); (case side2 => exact (Kd.R_reads' HO418.out).2.1); (case side3 => exact rC (n := t419.length) (c := co151) ((x3 HO421.out BK424.out (by decide) (.int .i64 t415) (.slice Ao150 t416.length co150) (.slice Ao151 t419.length co151)))); (case side4 => exact (Kd.R_reads' HO421.out).2.1); (case side5 => exact rC (n := t364.length) (c := co26) ((x3 p0'.out BK424.out (by decide) (.int .i64 t415) (.slice Ao150 t416.length co150) (.slice Ao151 t419.length co151)))); (case side6 => exact (Kd.R_reads' p0'.out).2.1); (case side7 => exact rC (n := t367.length) (c := co27) ((x3 p1'.out BK424.out (by decide) (.int .i64 t415) (.slice Ao150 t416.length co150) (.slice Ao151 t419.length co151)))); (case side8 => exact (Kd.R_reads' p1'.out).2.1); rintro e w174 ⟨rfl, hb⟩; refine ⟨_, rfl, ?_⟩; replace p0' := aM (xB (xH ((x3 p0'.out BK424.out (by decide) (.int .i64 t415) (.slice Ao150 t416.length co150) (.slice Ao151 t419.length co151)))) hb); replace p1' := aM (xB (xH ((x3 p1'.out BK424.out (by decide) (.int .i64 t415) (.slice Ao150 t416.length co150) (.slice Ao151 t419.length co151)))) hb); replace p2' := aM (xB (xH ((x3 p2'.out BK424.out (by decide) (.int .i64 t415) (.slice Ao150 t416.length co150) (.slice Ao151 t419.length co151)))) hb); replace p3' := aM (xB (xH ((x3 p3'.out BK424.out (by decide) (.int .i64 t415) (.slice Ao150 t416.length co150) (.slice Ao151 t419.length co151)))) hb); replace p4' := aM (xB (xH ((x3 p4'.out BK424.out (by decide) (.int .i64 t415) (.slice Ao150 t416.length co150) (.slice Ao151 t419.length co151)))) hb); replace p5' := aM (xB (xH ((x3 p5'.out BK424.out (by decide) (.int .i64 t415) (.slice Ao150 t416.length co150) (.slice Ao151 t419.length co151)))) hb); replace HO411 := aM (xB (xH ((x3 HO411.out BK424.out (by decide) (.int .i64 t415) (.slice Ao150 t416.length co150) (.slice Ao151 t419.length co151)))) hb); replace HO414 := aM (xB (xH ((x3 HO414.out BK424.out (by decide) (.int .i64 t415) (.slice Ao150 t416.length co150) (.slice Ao151 t419.length co151)))) hb); replace HO418 := aM (xB (xH ((x3 HO418.out BK424.out (by decide) (.int .i64 t415) (.slice Ao150 t416.length co150) (.slice Ao151 t419.length co151)))) hb); replace HO421 := aM (xB (xH ((x3 HO421.out BK424.out (by decide) (.int .i64 t415) (.slice Ao150 t416.length co150) (.slice Ao151 t419.length co151)))) hb); replace BK354 := aM (yB (g := gb354) (o := .cells #[.int .i64 a0_0, .slice A0_1 l0_1.length c0_1, .slice A0_2 l0_2.length c0_2] 32 (0, 0)) (by (with_reducible repeat (first | refine yN ?_ _ | refine yD ?_ | refine yA ?_ _)); refine yF ?_ NB354_424.out _; (with_reducible repeat (first | refine yN ?_ _ | refine yD ?_ | refine yA ?_ _)); refine yF ?_ NB354_424.out _; (with_reducible repeat (first | refine yN ?_ _ | refine yD ?_ | refine yA ?_ _)); refine yF ?_ NB354_424.out _; (with_reducible repeat (first | refine yN ?_ _ | refine yD ?_ | refine yA ?_ _)); exact BK354.out) hb); replace BK372 := aM (yB (g := gb372) (o := .cells #[.int .i64 t363, .slice Ao26 t364.length co26, .slice Ao27 t367.length co27] 24 (0, 0)) (by (with_reducible repeat (first | refine yN ?_ _ | refine yD ?_ | refine yA ?_ _)); refine yF ?_ NB372_424.out _; (with_reducible repeat (first | refine yN ?_ _ | refine yD ?_ | refine yA ?_ _)); refine yF ?_ NB372_424.out _; (with_reducible repeat (first | refine yN ?_ _ | refine yD ?_ | refine yA ?_ _)); refine yF ?_ NB372_424.out _; (with_reducible repeat (first | refine yN ?_ _ | refine yD ?_ | refine yA ?_ _)); exact BK372.out) hb); replace BK380 := aM (yB (g := gb380) (o := .cells #[.int .i64 t373, .slice Ao34 t401.length co34, .slice Ao35 t402.length co35] 24 (0, 0)) (by (with_reducible repeat (first | refine yN ?_ _ | refine yD ?_ | refine yA ?_ _)); refine yF ?_ NB380_424.out _; (with_reducible repeat (first | refine yN ?_ _ | refine yD ?_ | refine yA ?_ _)); refine yF ?_ NB380_424.out _; (with_reducible repeat (first | refine yN ?_ _ | refine yD ?_ | refine yA ?_ _)); refine yF ?_ NB380_424.out _; (with_reducible repeat (first | refine yN ?_ _ | refine yD ?_ | refine yA ?_ _)); exact BK380.out) hb); replace BK390 := aM (yB (g := gb390) (o := .cells #[.int .i64 t381, .slice Ao42 t382.length co42, .slice Ao43 t385.length co43] 24 (0, 0)) (by (with_reducible repeat (first | refine yN ?_ _ | refine yD ?_ | refine yA ?_ _)); refine yF ?_ NB390_424.out _; (with_reducible repeat (first | refine yN ?_ _ | refine yD ?_ | refine yA ?_ _)); refine yF ?_ NB390_424.out _; (with_reducible repeat (first | refine yN ?_ _ | refine yD ?_ | refine yA ?_ _)); refine yF ?_ NB390_424.out _; (with_reducible repeat (first | refine yN ?_ _ | refine yD ?_ | refine yA ?_ _)); exact BK390.out) hb); replace BK424 := aM (yB (g := gb424) (o := .cells #[.int .i64 t415, .slice Ao150 t416.length co150, .slice Ao151 t419.length co151] 24 (0, 0)) (by (with_reducible repeat (first | refine yN ?_ _ | refine yD ?_ | refine yA ?_ _)); refine yP (cs := #[.int .i64 t415, .slice Ao150 t416.length co150, .slice none 0 0]) ?_ 2 _ rfl; (with_reducible repeat (first | refine yN ?_ _ | refine yD ?_ | refine yA ?_ _)); refine yP (cs := #[.int .i64 t415, .slice none 0 0, .slice none 0 0]) ?_ 1 _ rfl; (with_reducible repeat (first | refine yN ?_ _ | refine yD ?_ | refine yA ?_ _)); refine yP (cs := #[.int .i64 0, .slice none 0 0, .slice none 0 0]) ?_ 0 _ rfl; (with_reducible repeat (first | refine yN ?_ _ | refine yD ?_ | refine yA ?_ _)); exact BK424.out) hb); replace HB := aM (zT (zH HB.out) hb); (try clear hb)))
              go_meet
              case rel => exact ⟨_, (true), (by first | rfl | (simp; done) | (simp [*]; done)), H', ⟨by have := HJ13.out; have := HJ75.out; first | omega | exact Nat.le_refl _⟩, ⟨by (try simp only [hl381001_75]); (try simp only [hl381002_75]); (with_reducible repeat (first | apply xA | apply xN | apply xD)); exact xM p0'.out (fun _ hk => ⟨hk.1.1.1.1.1, ⟨hk.1.1.1.1.2.1, ⟨hk.1.1.1.1.2.2.1, ⟨hk.1.1.1.1.2.2.2.1, ⟨hk.1.1.1.1.2.2.2.2, ⟨hk.1.2, hk.2⟩⟩⟩⟩⟩⟩)⟩, ⟨by (try simp only [hl381001_75]); (try simp only [hl381002_75]); (with_reducible repeat (first | apply xA | apply xN | apply xD)); exact xM p1'.out (fun _ hk => ⟨hk.1.1.1.1.1, ⟨hk.1.1.1.1.2.1, ⟨hk.1.1.1.1.2.2.1, ⟨hk.1.1.1.1.2.2.2.1, ⟨hk.1.1.1.1.2.2.2.2, ⟨hk.1.2, hk.2⟩⟩⟩⟩⟩⟩)⟩, ⟨by (try simp only [hl381001_75]); (try simp only [hl381002_75]); (with_reducible repeat (first | apply xA | apply xN | apply xD)); exact xM p2'.out (fun _ hk => ⟨hk.1.1.1.1.1, ⟨hk.1.1.1.1.2.1, ⟨hk.1.1.1.1.2.2.1, ⟨hk.1.1.1.1.2.2.2.1, ⟨hk.1.1.1.1.2.2.2.2, ⟨hk.1.2, hk.2⟩⟩⟩⟩⟩⟩)⟩, ⟨by (try simp only [hl381001_75]); (try simp only [hl381002_75]); (with_reducible repeat (first | apply xA | apply xN | apply xD)); exact xM p3'.out (fun _ hk => ⟨hk.1.1.1.1.1, ⟨hk.1.1.1.1.2.1, ⟨hk.1.1.1.1.2.2.1, ⟨hk.1.1.1.1.2.2.2.1, ⟨hk.1.1.1.1.2.2.2.2, ⟨hk.1.2, hk.2⟩⟩⟩⟩⟩⟩)⟩, ⟨by (try simp only [hl381001_75]); (try simp only [hl381002_75]); (with_reducible repeat (first | apply xA | apply xN | apply xD)); exact xM p4'.out (fun _ hk => ⟨hk.1.1.1.1.1, ⟨hk.1.1.1.1.2.1, ⟨hk.1.1.1.1.2.2.1, ⟨hk.1.1.1.1.2.2.2.1, ⟨hk.1.1.1.1.2.2.2.2, ⟨hk.1.2, hk.2⟩⟩⟩⟩⟩⟩)⟩, ⟨by (try simp only [hl381001_75]); (try simp only [hl381002_75]); (with_reducible repeat (first | apply xA | apply xN | apply xD)); exact xM p5'.out (fun _ hk => ⟨hk.1.1.1.1.1, ⟨hk.1.1.1.1.2.1, ⟨hk.1.1.1.1.2.2.1, ⟨hk.1.1.1.1.2.2.2.1, ⟨hk.1.1.1.1.2.2.2.2, ⟨hk.1.2, hk.2⟩⟩⟩⟩⟩⟩)⟩, ⟨by (try simp only [hl381001_75]); (try simp only [hl381002_75]); (with_reducible repeat (first | apply xA | apply xN | apply xD)); exact xM HO418.out (fun _ hk => ⟨hk.1.1.1.1.1.1.1.2, ⟨hk.1.1.1.1.1.1.2, ⟨hk.1.1.1.1.1.2, ⟨hk.1.1.1.1.2, ⟨hk.1.1.1.2, ⟨hk.1.1.2, hk.1.1.1.1.1.1.1.1⟩⟩⟩⟩⟩⟩)⟩, ⟨by (try simp only [hl381001_75]); (try simp only [hl381002_75]); (with_reducible repeat (first | apply xA | apply xN | apply xD)); exact xM HO421.out (fun _ hk => ⟨hk.1.1.1.1.1.1.1.2, ⟨hk.1.1.1.1.1.1.2, ⟨hk.1.1.1.1.1.2, ⟨hk.1.1.1.1.2, ⟨hk.1.1.1.2, ⟨hk.1.1.2, hk.1.1.1.1.1.1.1.1⟩⟩⟩⟩⟩⟩)⟩, ⟨by (try simp only [hl381001_75]); (try simp only [hl381002_75]); (with_reducible repeat (first | refine yN ?_ _ | refine yD ?_ | refine yA ?_ _)); exact BK354.out⟩, ⟨by (try simp only [hl381001_75]); (try simp only [hl381002_75]); (with_reducible repeat (first | refine yN ?_ _ | refine yD ?_ | refine yA ?_ _)); exact BK372.out⟩, ⟨by (try simp only [hl381001_75]); (try simp only [hl381002_75]); (with_reducible repeat (first | refine yN ?_ _ | refine yD ?_ | refine yA ?_ _)); exact BK380.out⟩, ⟨by (try simp only [hl381001_75]); (try simp only [hl381002_75]); (with_reducible repeat (first | refine yN ?_ _ | refine yD ?_ | refine yA ?_ _)); exact BK390.out⟩, ⟨by (try simp only [hl381001_75]); (try simp only [hl381002_75]); (with_reducible repeat (first | refine yN ?_ _ | refine yD ?_ | refine yA ?_ _)); exact BK424.out⟩, ⟨zH HB.out⟩⟩
            ·replace c153 := Bool.eq_false_iff.mpr c153
             subst c153
             have H1 : (laws_FnExactTakeRoom.j2 kj75 t404 true t381 t405 t406) = some r := by rw [if_neg (show ¬ (false = true) by decide)] at H; exact H
             clear H
             have H := H1
             clear H1
             have H' := aM H
             clear H
             have hnb175 := NB424_354.out
             have hnc175 := NB354_424.out
             have hnb176 := NB424_372.out
             have hnc176 := NB372_424.out
             have hnb177 := NB424_380.out
             have hnc177 := NB380_424.out
             have hnb178 := NB424_390.out
             have hnc178 := NB390_424.out
             have hcz179_0 : w144.cell? ⟨gb424, 0, none⟩ = some (.int .i64 0) := yc BK424.out 0
             have hcz179_1 : w144.cell? ⟨gb424, 1, none⟩ = some (.slice none 0 0) := yc BK424.out 1
             have hcz179_2 : w144.cell? ⟨gb424, 2, none⟩ = some (.slice none 0 0) := yc BK424.out 2
             have hfz179_0 := yZ BK424.out 0
             have hfz179_1 := yZ BK424.out 1
             have hfz179_2 := yZ BK424.out 2
             have hnb180 := NB372_354.out
             have hnc180 := NB354_372.out
             have hnb181 := NB372_380.out
             have hnc181 := NB380_372.out
             have hnb182 := NB372_390.out
             have hnc182 := NB390_372.out
             have hcz183_0 : w144.cell? ⟨gb372, 0, none⟩ = some (.int .i64 t363) := yc BK372.out 0
             have hcz183_1 : w144.cell? ⟨gb372, 1, none⟩ = some (.slice Ao26 t364.length co26) := yc BK372.out 1
             have hcz183_2 : w144.cell? ⟨gb372, 2, none⟩ = some (.slice Ao27 t367.length co27) := yc BK372.out 2
             have hfz183_0 := yZ BK372.out 0
             have hfz183_1 := yZ BK372.out 1
             have hfz183_2 := yZ BK372.out 2
             go_wp2_with (first | ((with_reducible refine gate_callee (f := 13) rfl ?_); refine goesL_ (some 112) rfl rfl Try.func13 (by kernel_rfl) rfl #[.agg #[.int .i64 t415, .slice Ao150 t416.length co150, .slice Ao151 t419.length co151], .agg #[.int .i64 t363, .slice Ao26 t364.length co26, .slice Ao27 t367.length co27]] rfl (by (try simp only [List.map_toArray, List.map_cons, List.map_nil]); first | done | rfl | (simp only [List.length_drop, List.length_take]; rfl)) ?_; (with_reducible refine (laws_eqFree.calls kj75 t415 _ _ t416 _ _ t419 t363 _ _ t364 _ _ t367 false _ ?side1 ?side2 ?side3 ?side4 ?side5 ?side6 ?side7 ?side8 A152.out).mono ?_); (case side1 => exact rC (n := t416.length) (c := co150) ((x3 HO418.out BK424.out (by decide) (.int .i64 t415) (.slice Ao150 t416.length co150) (.slice Ao151 t419.length co151)))); (case side2 => exact (Kd.R_reads' HO418.out).2.1); (case side3 => exact rC (n := t419.length) (c := co151) ((x3 HO421.out BK424.out (by decide) (.int .i64 t415) (.slice Ao150 t416.length co150) (.slice Ao151 t419.length co151)))); (case side4 => exact (Kd.R_reads' HO421.out).2.1); (case side5 => exact rC (n := t364.length) (c := co26) ((x3 p0'.out BK424.out (by decide) (.int .i64 t415) (.slice Ao150 t416.length co150) (.slice Ao151 t419.length co151)))); (case side6 => exact (Kd.R_reads' p0'.out).2.1); (case side7 => exact rC (n := t367.length) (c := co27) ((x3 p1'.out BK424.out (by decide) (.int .i64 t415) (.slice Ao150 t416.length co150) (.slice Ao151 t419.length co151)))); (case side8 => exact (Kd.R_reads' p1'.out).2.1); rintro e w184 ⟨rfl, hb⟩; refine ⟨_, rfl, ?_⟩; replace p0' := aM (xB (xH ((x3 p0'.out BK424.out (by decide) (.int .i64 t415) (.slice Ao150 t416.length co150) (.slice Ao151 t419.length co151)))) hb); replace p1' := aM (xB (xH ((x3 p1'.out BK424.out (by decide) (.int .i64 t415) (.slice Ao150 t416.length co150) (.slice Ao151 t419.length co151)))) hb); replace p2' := aM (xB (xH ((x3 p2'.out BK424.out (by decide) (.int .i64 t415) (.slice Ao150 t416.length co150) (.slice Ao151 t419.length co151)))) hb); replace p3' := aM (xB (xH ((x3 p3'.out BK424.out (by decide) (.int .i64 t415) (.slice Ao150 t416.length co150) (.slice Ao151 t419.length co151)))) hb); replace p4' := aM (xB (xH ((x3 p4'.out BK424.out (by decide) (.int .i64 t415) (.slice Ao150 t416.length co150) (.slice Ao151 t419.length co151)))) hb); replace p5' := aM (xB (xH ((x3 p5'.out BK424.out (by decide) (.int .i64 t415) (.slice Ao150 t416.length co150) (.slice Ao151 t419.length co151)))) hb); replace HO411 := aM (xB (xH ((x3 HO411.out BK424.out (by decide) (.int .i64 t415) (.slice Ao150 t416.length co150) (.slice Ao151 t419.length co151)))) hb); replace HO414 := aM (xB (xH ((x3 HO414.out BK424.out (by decide) (.int .i64 t415) (.slice Ao150 t416.length co150) (.slice Ao151 t419.length co151)))) hb); replace HO418 := aM (xB (xH ((x3 HO418.out BK424.out (by decide) (.int .i64 t415) (.slice Ao150 t416.length co150) (.slice Ao151 t419.length co151)))) hb); replace HO421 := aM (xB (xH ((x3 HO421.out BK424.out (by decide) (.int .i64 t415) (.slice Ao150 t416.length co150) (.slice Ao151 t419.length co151)))) hb); replace BK354 := aM (yB (g := gb354) (o := .cells #[.int .i64 a0_0, .slice A0_1 l0_1.length c0_1, .slice A0_2 l0_2.length c0_2] 32 (0, 0)) (by (with_reducible repeat (first | refine yN ?_ _ | refine yD ?_ | refine yA ?_ _)); refine yF ?_ NB354_424.out _; (with_reducible repeat (first | refine yN ?_ _ | refine yD ?_ | refine yA ?_ _)); refine yF ?_ NB354_424.out _; (with_reducible repeat (first | refine yN ?_ _ | refine yD ?_ | refine yA ?_ _)); refine yF ?_ NB354_424.out _; (with_reducible repeat (first | refine yN ?_ _ | refine yD ?_ | refine yA ?_ _)); exact BK354.out) hb); replace BK372 := aM (yB (g := gb372) (o := .cells #[.int .i64 t363, .slice Ao26 t364.length co26, .slice Ao27 t367.length co27] 24 (0, 0)) (by (with_reducible repeat (first | refine yN ?_ _ | refine yD ?_ | refine yA ?_ _)); refine yF ?_ NB372_424.out _; (with_reducible repeat (first | refine yN ?_ _ | refine yD ?_ | refine yA ?_ _)); refine yF ?_ NB372_424.out _; (with_reducible repeat (first | refine yN ?_ _ | refine yD ?_ | refine yA ?_ _)); refine yF ?_ NB372_424.out _; (with_reducible repeat (first | refine yN ?_ _ | refine yD ?_ | refine yA ?_ _)); exact BK372.out) hb); replace BK380 := aM (yB (g := gb380) (o := .cells #[.int .i64 t373, .slice Ao34 t401.length co34, .slice Ao35 t402.length co35] 24 (0, 0)) (by (with_reducible repeat (first | refine yN ?_ _ | refine yD ?_ | refine yA ?_ _)); refine yF ?_ NB380_424.out _; (with_reducible repeat (first | refine yN ?_ _ | refine yD ?_ | refine yA ?_ _)); refine yF ?_ NB380_424.out _; (with_reducible repeat (first | refine yN ?_ _ | refine yD ?_ | refine yA ?_ _)); refine yF ?_ NB380_424.out _; (with_reducible repeat (first | refine yN ?_ _ | refine yD ?_ | refine yA ?_ _)); exact BK380.out) hb); replace BK390 := aM (yB (g := gb390) (o := .cells #[.int .i64 t381, .slice Ao42 t382.length co42, .slice Ao43 t385.length co43] 24 (0, 0)) (by (with_reducible repeat (first | refine yN ?_ _ | refine yD ?_ | refine yA ?_ _)); refine yF ?_ NB390_424.out _; (with_reducible repeat (first | refine yN ?_ _ | refine yD ?_ | refine yA ?_ _)); refine yF ?_ NB390_424.out _; (with_reducible repeat (first | refine yN ?_ _ | refine yD ?_ | refine yA ?_ _)); refine yF ?_ NB390_424.out _; (with_reducible repeat (first | refine yN ?_ _ | refine yD ?_ | refine yA ?_ _)); exact BK390.out) hb); replace BK424 := aM (yB (g := gb424) (o := .cells #[.int .i64 t415, .slice Ao150 t416.length co150, .slice Ao151 t419.length co151] 24 (0, 0)) (by (with_reducible repeat (first | refine yN ?_ _ | refine yD ?_ | refine yA ?_ _)); refine yP (cs := #[.int .i64 t415, .slice Ao150 t416.length co150, .slice none 0 0]) ?_ 2 _ rfl; (with_reducible repeat (first | refine yN ?_ _ | refine yD ?_ | refine yA ?_ _)); refine yP (cs := #[.int .i64 t415, .slice none 0 0, .slice none 0 0]) ?_ 1 _ rfl; (with_reducible repeat (first | refine yN ?_ _ | refine yD ?_ | refine yA ?_ _)); refine yP (cs := #[.int .i64 0, .slice none 0 0, .slice none 0 0]) ?_ 0 _ rfl; (with_reducible repeat (first | refine yN ?_ _ | refine yD ?_ | refine yA ?_ _)); exact BK424.out) hb); replace HB := aM (zT (zH HB.out) hb); (try clear hb)))
             go_meet
             case rel => exact ⟨_, (true), (by first | rfl | (simp; done) | (simp [*]; done)), H', ⟨by have := HJ13.out; have := HJ75.out; first | omega | exact Nat.le_refl _⟩, ⟨by (try simp only [hl381001_75]); (try simp only [hl381002_75]); (with_reducible repeat (first | apply xA | apply xN | apply xD)); exact xM p0'.out (fun _ hk => ⟨hk.1.1.1.1.1, ⟨hk.1.1.1.1.2.1, ⟨hk.1.1.1.1.2.2.1, ⟨hk.1.1.1.1.2.2.2.1, ⟨hk.1.1.1.1.2.2.2.2, ⟨hk.1.2, hk.2⟩⟩⟩⟩⟩⟩)⟩, ⟨by (try simp only [hl381001_75]); (try simp only [hl381002_75]); (with_reducible repeat (first | apply xA | apply xN | apply xD)); exact xM p1'.out (fun _ hk => ⟨hk.1.1.1.1.1, ⟨hk.1.1.1.1.2.1, ⟨hk.1.1.1.1.2.2.1, ⟨hk.1.1.1.1.2.2.2.1, ⟨hk.1.1.1.1.2.2.2.2, ⟨hk.1.2, hk.2⟩⟩⟩⟩⟩⟩)⟩, ⟨by (try simp only [hl381001_75]); (try simp only [hl381002_75]); (with_reducible repeat (first | apply xA | apply xN | apply xD)); exact xM p2'.out (fun _ hk => ⟨hk.1.1.1.1.1, ⟨hk.1.1.1.1.2.1, ⟨hk.1.1.1.1.2.2.1, ⟨hk.1.1.1.1.2.2.2.1, ⟨hk.1.1.1.1.2.2.2.2, ⟨hk.1.2, hk.2⟩⟩⟩⟩⟩⟩)⟩, ⟨by (try simp only [hl381001_75]); (try simp only [hl381002_75]); (with_reducible repeat (first | apply xA | apply xN | apply xD)); exact xM p3'.out (fun _ hk => ⟨hk.1.1.1.1.1, ⟨hk.1.1.1.1.2.1, ⟨hk.1.1.1.1.2.2.1, ⟨hk.1.1.1.1.2.2.2.1, ⟨hk.1.1.1.1.2.2.2.2, ⟨hk.1.2, hk.2⟩⟩⟩⟩⟩⟩)⟩, ⟨by (try simp only [hl381001_75]); (try simp only [hl381002_75]); (with_reducible repeat (first | apply xA | apply xN | apply xD)); exact xM p4'.out (fun _ hk => ⟨hk.1.1.1.1.1, ⟨hk.1.1.1.1.2.1, ⟨hk.1.1.1.1.2.2.1, ⟨hk.1.1.1.1.2.2.2.1, ⟨hk.1.1.1.1.2.2.2.2, ⟨hk.1.2, hk.2⟩⟩⟩⟩⟩⟩)⟩, ⟨by (try simp only [hl381001_75]); (try simp only [hl381002_75]); (with_reducible repeat (first | apply xA | apply xN | apply xD)); exact xM p5'.out (fun _ hk => ⟨hk.1.1.1.1.1, ⟨hk.1.1.1.1.2.1, ⟨hk.1.1.1.1.2.2.1, ⟨hk.1.1.1.1.2.2.2.1, ⟨hk.1.1.1.1.2.2.2.2, ⟨hk.1.2, hk.2⟩⟩⟩⟩⟩⟩)⟩, ⟨by (try simp only [hl381001_75]); (try simp only [hl381002_75]); (with_reducible repeat (first | apply xA | apply xN | apply xD)); exact xM HO418.out (fun _ hk => ⟨hk.1.1.1.1.1.1.1.2, ⟨hk.1.1.1.1.1.1.2, ⟨hk.1.1.1.1.1.2, ⟨hk.1.1.1.1.2, ⟨hk.1.1.1.2, ⟨hk.1.1.2, hk.1.1.1.1.1.1.1.1⟩⟩⟩⟩⟩⟩)⟩, ⟨by (try simp only [hl381001_75]); (try simp only [hl381002_75]); (with_reducible repeat (first | apply xA | apply xN | apply xD)); exact xM HO421.out (fun _ hk => ⟨hk.1.1.1.1.1.1.1.2, ⟨hk.1.1.1.1.1.1.2, ⟨hk.1.1.1.1.1.2, ⟨hk.1.1.1.1.2, ⟨hk.1.1.1.2, ⟨hk.1.1.2, hk.1.1.1.1.1.1.1.1⟩⟩⟩⟩⟩⟩)⟩, ⟨by (try simp only [hl381001_75]); (try simp only [hl381002_75]); (with_reducible repeat (first | refine yN ?_ _ | refine yD ?_ | refine yA ?_ _)); exact BK354.out⟩, ⟨by (try simp only [hl381001_75]); (try simp only [hl381002_75]); (with_reducible repeat (first | refine yN ?_ _ | refine yD ?_ | refine yA ?_ _)); exact BK372.out⟩, ⟨by (try simp only [hl381001_75]); (try simp only [hl381002_75]); (with_reducible repeat (first | refine yN ?_ _ | refine yD ?_ | refine yA ?_ _)); exact BK380.out⟩, ⟨by (try simp only [hl381001_75]); (try simp only [hl381002_75]); (with_reducible repeat (first | refine yN ?_ _ | refine yD ?_ | refine yA ?_ _)); exact BK390.out⟩, ⟨by (try simp only [hl381001_75]); (try simp only [hl381002_75]); (with_reducible repeat (first | refine yN ?_ _ | refine yD ?_ | refine yA ?_ _)); exact BK424.out⟩, ⟨zH HB.out⟩⟩
           case rest =>
            clear HC129
            (try clear c1); (try clear c2); (try clear p2); (try clear c3); (try clear c4); (try clear c5); (try clear c6); (try clear c6b0); (try clear c7); (try clear c8); (try clear c9); (try clear c10); (try clear c11); (try clear c12); (try clear c13); (try clear c14); (try clear c15); (try clear c16); (try clear c17); (try clear c18); (try clear c24); (try clear c31); (try clear c32); (try clear c34); (try clear c35); (try clear c38); (try clear c39); (try clear c40); (try clear c45); (try clear c46); (try clear c46b0); (try clear c46b1); (try clear c47); (try clear c48); (try clear c49); (try clear c51); (try clear c52); (try clear c55); (try clear c56); (try clear c57); (try clear c59); (try clear c60); (try clear c63); (try clear c64); (try clear c65); (try clear c67); (try clear c68); (try clear c71); (try clear c74); (try clear c82); (try clear c83); (try clear c84); (try clear c87); (try clear c87b0); (try clear c89); (try clear c90); (try clear c90b0); (try clear c90b1); (try clear c91); (try clear c92); (try clear c93); (try clear c95); (try clear c96); (try clear c99); (try clear c100); (try clear c101); (try clear c103); (try clear c104); (try clear c107); (try clear c108); (try clear c109); (try clear c111); (try clear c112); (try clear c115); (try clear c118); (try clear c118b0); (try clear c119); (try clear c120); (try clear c121); (try clear c126); (try clear c126b0); (try clear c126b1); (try clear c130); (try clear c131); (try clear c132); (try clear c137); (try clear c138); (try clear c145); (try clear c146); (try clear c147); (try clear c148); (try clear c153); (try clear c154); (try clear c154b0); (try clear c154b1); (try clear c155); (try clear c156); (try clear c157); (try clear c158); (try clear c160); (try clear c161); (try clear c162); (try clear c165); (try clear c166); (try clear c167); (try clear c168); (try clear c170); (try clear c171); (try clear c172); (try clear c175); (try clear c176); (try clear c177); (try clear c178); (try clear c180); (try clear c181); (try clear c182); (try clear hcz102_0); (try clear hcz102_1); (try clear hcz102_2); (try clear hcz105_0); (try clear hcz105_1); (try clear hcz105_2); (try clear hcz110_0); (try clear hcz110_1); (try clear hcz110_2); (try clear hcz113_0); (try clear hcz113_1); (try clear hcz113_2); (try clear hcz122_0); (try clear hcz122_1); (try clear hcz122_2); (try clear hcz124_0); (try clear hcz124_1); (try clear hcz124_2); (try clear hcz133_0); (try clear hcz133_1); (try clear hcz133_2); (try clear hcz135_0); (try clear hcz135_1); (try clear hcz135_2); (try clear hcz139_0); (try clear hcz139_1); (try clear hcz139_2); (try clear hcz149_0); (try clear hcz149_1); (try clear hcz149_2); (try clear hcz159_0); (try clear hcz159_1); (try clear hcz159_2); (try clear hcz163_0); (try clear hcz163_1); (try clear hcz163_2); (try clear hcz169_0); (try clear hcz169_1); (try clear hcz169_2); (try clear hcz16_0); (try clear hcz16_1); (try clear hcz16_2); (try clear hcz173_0); (try clear hcz173_1); (try clear hcz173_2); (try clear hcz179_0); (try clear hcz179_1); (try clear hcz179_2); (try clear hcz183_0); (try clear hcz183_1); (try clear hcz183_2); (try clear hcz18_0); (try clear hcz18_1); (try clear hcz18_2); (try clear hcz25_0); (try clear hcz25_1); (try clear hcz25_2); (try clear hcz28_0); (try clear hcz28_1); (try clear hcz28_2); (try clear hcz33_0); (try clear hcz33_1); (try clear hcz33_2); (try clear hcz41_0); (try clear hcz41_1); (try clear hcz41_2); (try clear hcz50_0); (try clear hcz50_1); (try clear hcz50_2); (try clear hcz53_0); (try clear hcz53_1); (try clear hcz53_2); (try clear hcz58_0); (try clear hcz58_1); (try clear hcz58_2); (try clear hcz61_0); (try clear hcz61_1); (try clear hcz61_2); (try clear hcz66_0); (try clear hcz66_1); (try clear hcz66_2); (try clear hcz69_0); (try clear hcz69_1); (try clear hcz69_2); (try clear hcz85_0); (try clear hcz85_1); (try clear hcz85_2); (try clear hcz8_0); (try clear hcz8_1); (try clear hcz8_2); (try clear hcz94_0); (try clear hcz94_1); (try clear hcz94_2); (try clear hcz97_0); (try clear hcz97_1); (try clear hcz97_2); (try clear hfz102_0); (try clear hfz102_1); (try clear hfz102_2); (try clear hfz105_0); (try clear hfz105_1); (try clear hfz105_2); (try clear hfz110_0); (try clear hfz110_1); (try clear hfz110_2); (try clear hfz113_0); (try clear hfz113_1); (try clear hfz113_2); (try clear hfz122_0); (try clear hfz122_1); (try clear hfz122_2); (try clear hfz124_0); (try clear hfz124_1); (try clear hfz124_2); (try clear hfz133_0); (try clear hfz133_1); (try clear hfz133_2); (try clear hfz135_0); (try clear hfz135_1); (try clear hfz135_2); (try clear hfz139_0); (try clear hfz139_1); (try clear hfz139_2); (try clear hfz149_0); (try clear hfz149_1); (try clear hfz149_2); (try clear hfz159_0); (try clear hfz159_1); (try clear hfz159_2); (try clear hfz163_0); (try clear hfz163_1); (try clear hfz163_2); (try clear hfz169_0); (try clear hfz169_1); (try clear hfz169_2); (try clear hfz16_0); (try clear hfz16_1); (try clear hfz16_2); (try clear hfz173_0); (try clear hfz173_1); (try clear hfz173_2); (try clear hfz179_0); (try clear hfz179_1); (try clear hfz179_2); (try clear hfz183_0); (try clear hfz183_1); (try clear hfz183_2); (try clear hfz18_0); (try clear hfz18_1); (try clear hfz18_2); (try clear hfz25_0); (try clear hfz25_1); (try clear hfz25_2); (try clear hfz28_0); (try clear hfz28_1); (try clear hfz28_2); (try clear hfz33_0); (try clear hfz33_1); (try clear hfz33_2); (try clear hfz41_0); (try clear hfz41_1); (try clear hfz41_2); (try clear hfz50_0); (try clear hfz50_1); (try clear hfz50_2); (try clear hfz53_0); (try clear hfz53_1); (try clear hfz53_2); (try clear hfz58_0); (try clear hfz58_1); (try clear hfz58_2); (try clear hfz61_0); (try clear hfz61_1); (try clear hfz61_2); (try clear hfz66_0); (try clear hfz66_1); (try clear hfz66_2); (try clear hfz69_0); (try clear hfz69_1); (try clear hfz69_2); (try clear hfz85_0); (try clear hfz85_1); (try clear hfz85_2); (try clear hfz8_0); (try clear hfz8_1); (try clear hfz8_2); (try clear hfz94_0); (try clear hfz94_1); (try clear hfz94_2); (try clear hfz97_0); (try clear hfz97_1); (try clear hfz97_2); (try clear p2)
            obtain ⟨kq, x123_128, rfl, HA, HJ128, p0', p1', p2', p3', p4', p5', p6', p7', BK354, BK372, BK380, BK390, BK424, HB⟩ := hcut
            have hl391001_128 := (Kd.R_reads' p4'.out).1
            rw [hl391001_128] at p4'
            (try simp only [hl391001_128])
            (try simp only [hl391001_128] at BK354)
            (try simp only [hl391001_128] at BK372)
            (try simp only [hl391001_128] at BK380)
            (try simp only [hl391001_128] at BK390)
            (try simp only [hl391001_128] at BK424)
            (try simp only [hl391001_128] at p0')
            (try simp only [hl391001_128] at p1')
            (try simp only [hl391001_128] at p2')
            (try simp only [hl391001_128] at p3')
            (try simp only [hl391001_128] at p5')
            (try simp only [hl391001_128] at p6')
            (try simp only [hl391001_128] at p7')
            have hl391002_128 := (Kd.R_reads' p5'.out).1
            rw [hl391002_128] at p5'
            (try simp only [hl391002_128])
            (try simp only [hl391002_128] at BK354)
            (try simp only [hl391002_128] at BK372)
            (try simp only [hl391002_128] at BK380)
            (try simp only [hl391002_128] at BK390)
            (try simp only [hl391002_128] at BK424)
            (try simp only [hl391002_128] at p0')
            (try simp only [hl391002_128] at p1')
            (try simp only [hl391002_128] at p2')
            (try simp only [hl391002_128] at p3')
            (try simp only [hl391002_128] at p4')
            (try simp only [hl391002_128] at p6')
            (try simp only [hl391002_128] at p7')
            cases kq with
            | zero => exact absurd HA.out (fun h_ => by change none = some _ at h_; cases h_)
            | succ kj128 =>
             have H := HA.out
             clear HA
             simp only [laws_FnExactTakeRoom.j2] at H
             by_cases c185 : x123_128 = true
             ·subst c185
              have H1 : (some false) = some r := by rw [if_pos rfl] at H; exact H
              clear H
              have H := H1
              clear H1
              exact absurd (H.trans (congrArg some HR_.out)) (by decide)
             ·replace c185 := Bool.eq_false_iff.mpr c185
              subst c185
              have H1 : ((laws_heldFree.f kj128 t381 t405 t406 1).bind fun t426 => (if t426 < 0 then (some false) else (if t426 = t404 then (some true) else (some false)))) = some r := by rw [if_neg (show ¬ (false = true) by decide)] at H; exact H
              clear H
              have H := H1
              clear H1
              replace H := Option.bind_eq_some_iff.mp H
              obtain ⟨t426, A1860, H⟩ := H
              replace H : (if t426 < 0 then (some false) else (if t426 = t404 then (some true) else (some false))) = some r := H
              have A186 := aM A1860
              clear A1860
              by_cases c187 : t426 < 0
              ·rw [if_pos c187] at H
               have c187b0 : decide (t426 < 0) = true := decide_eq_true c187
               clear c187
               obtain rfl := Option.some.inj H
               have hnb188 := NB390_354.out
               have hnc188 := NB354_390.out
               have hnb189 := NB390_372.out
               have hnc189 := NB372_390.out
               have hnb190 := NB390_380.out
               have hnc190 := NB380_390.out
               have hnb191 := NB390_424.out
               have hnc191 := NB424_390.out
               have hcz192_0 : wc.cell? ⟨gb390, 0, none⟩ = some (.int .i64 t381) := yc BK390.out 0
               have hcz192_1 : wc.cell? ⟨gb390, 1, none⟩ = some (.slice Ao42 t405.length co42) := yc BK390.out 1
               have hcz192_2 : wc.cell? ⟨gb390, 2, none⟩ = some (.slice Ao43 t406.length co43) := yc BK390.out 2
               have hfz192_0 := yZ BK390.out 0
               have hfz192_1 := yZ BK390.out 1
               have hfz192_2 := yZ BK390.out 2
               go_wp2_with (first | ((with_reducible refine gate_callee (f := 15) rfl ?_); refine goesL_ (some 126) rfl rfl Try.func15 (by kernel_rfl) rfl #[.agg #[.int .i64 t381, .slice Ao42 t405.length co42, .slice Ao43 t406.length co43], .int .i64 1] rfl (by (try simp only [List.map_toArray, List.map_cons, List.map_nil]); first | done | rfl | (simp only [List.length_drop, List.length_take]; rfl)) ?_; (with_reducible refine (laws_heldFree.calls kj128 t381 _ _ t405 _ _ t406 1 t426 _ ?side1 ?side2 ?side3 ?side4 A186.out).mono ?_); (case side1 => repeat (first | exact (Kd.R_reads' p4'.out).2.2 | (with_reducible refine cA ?_ _) | (with_reducible refine cN ?_ _) | (with_reducible refine cD ?_))); (case side2 => exact (Kd.R_reads' p4'.out).2.1); (case side3 => repeat (first | exact (Kd.R_reads' p5'.out).2.2 | (with_reducible refine cA ?_ _) | (with_reducible refine cN ?_ _) | (with_reducible refine cD ?_))); (case side4 => exact (Kd.R_reads' p5'.out).2.1); rintro e w193 ⟨rfl, hb⟩; refine ⟨_, rfl, ?_⟩; replace p0' := xK p0'.out hb; replace p1' := xK p1'.out hb; replace p2' := xK p2'.out hb; replace p3' := xK p3'.out hb; replace p4' := xK p4'.out hb; replace p5' := xK p5'.out hb; replace p6' := xK p6'.out hb; replace p7' := xK p7'.out hb; replace BK354 := yK BK354.out hb; replace BK372 := yK BK372.out hb; replace BK380 := yK BK380.out hb; replace BK390 := yK BK390.out hb; replace BK424 := yK BK424.out hb; replace HB := aM (zT (zH HB.out) hb); (try clear hb)))
               go_ret
               exact ⟨by first | rfl | (simp [errW_none, errW_some] <;> rfl) | (simp [*, errW_none, errW_some] <;> rfl), zH HB.out⟩
              ·rw [if_neg c187] at H
               have c187b0 : decide (t426 < 0) = false := decide_eq_false c187
               clear c187
               by_cases c194 : t426 = t404
               ·rw [if_pos c194] at H
                have c194b0 : (t426 == t404) = true := beq_iff_eq.mpr c194
                have c194b1 : (t426 != t404) = false := bne_eq_false_iff_eq.mpr c194
                clear c194
                obtain rfl := Option.some.inj H
                have hnb195 := NB390_354.out
                have hnc195 := NB354_390.out
                have hnb196 := NB390_372.out
                have hnc196 := NB372_390.out
                have hnb197 := NB390_380.out
                have hnc197 := NB380_390.out
                have hnb198 := NB390_424.out
                have hnc198 := NB424_390.out
                have hcz199_0 : wc.cell? ⟨gb390, 0, none⟩ = some (.int .i64 t381) := yc BK390.out 0
                have hcz199_1 : wc.cell? ⟨gb390, 1, none⟩ = some (.slice Ao42 t405.length co42) := yc BK390.out 1
                have hcz199_2 : wc.cell? ⟨gb390, 2, none⟩ = some (.slice Ao43 t406.length co43) := yc BK390.out 2
                have hfz199_0 := yZ BK390.out 0
                have hfz199_1 := yZ BK390.out 1
                have hfz199_2 := yZ BK390.out 2
                go_wp2_with (first | ((with_reducible refine gate_callee (f := 15) rfl ?_); refine goesL_ (some 126) rfl rfl Try.func15 (by kernel_rfl) rfl #[.agg #[.int .i64 t381, .slice Ao42 t405.length co42, .slice Ao43 t406.length co43], .int .i64 1] rfl (by (try simp only [List.map_toArray, List.map_cons, List.map_nil]); first | done | rfl | (simp only [List.length_drop, List.length_take]; rfl)) ?_; (with_reducible refine (laws_heldFree.calls kj128 t381 _ _ t405 _ _ t406 1 t426 _ ?side1 ?side2 ?side3 ?side4 A186.out).mono ?_); (case side1 => repeat (first | exact (Kd.R_reads' p4'.out).2.2 | (with_reducible refine cA ?_ _) | (with_reducible refine cN ?_ _) | (with_reducible refine cD ?_))); (case side2 => exact (Kd.R_reads' p4'.out).2.1); (case side3 => repeat (first | exact (Kd.R_reads' p5'.out).2.2 | (with_reducible refine cA ?_ _) | (with_reducible refine cN ?_ _) | (with_reducible refine cD ?_))); (case side4 => exact (Kd.R_reads' p5'.out).2.1); rintro e w200 ⟨rfl, hb⟩; refine ⟨_, rfl, ?_⟩; replace p0' := xK p0'.out hb; replace p1' := xK p1'.out hb; replace p2' := xK p2'.out hb; replace p3' := xK p3'.out hb; replace p4' := xK p4'.out hb; replace p5' := xK p5'.out hb; replace p6' := xK p6'.out hb; replace p7' := xK p7'.out hb; replace BK354 := yK BK354.out hb; replace BK372 := yK BK372.out hb; replace BK380 := yK BK380.out hb; replace BK390 := yK BK390.out hb; replace BK424 := yK BK424.out hb; replace HB := aM (zT (zH HB.out) hb); (try clear hb)))
                go_ret
                exact ⟨by first | rfl | (simp [errW_none, errW_some] <;> rfl) | (simp [*, errW_none, errW_some] <;> rfl), zH HB.out⟩
               ·rw [if_neg c194] at H
                have c194b0 : (t426 == t404) = false := beq_eq_false_iff_ne.mpr c194
                have c194b1 : (t426 != t404) = true := bne_iff_ne.mpr c194
                obtain rfl := Option.some.inj H
                have hnb201 := NB390_354.out
                have hnc201 := NB354_390.out
                have hnb202 := NB390_372.out
                have hnc202 := NB372_390.out
                have hnb203 := NB390_380.out
                have hnc203 := NB380_390.out
                have hnb204 := NB390_424.out
                have hnc204 := NB424_390.out
                have hcz205_0 : wc.cell? ⟨gb390, 0, none⟩ = some (.int .i64 t381) := yc BK390.out 0
                have hcz205_1 : wc.cell? ⟨gb390, 1, none⟩ = some (.slice Ao42 t405.length co42) := yc BK390.out 1
                have hcz205_2 : wc.cell? ⟨gb390, 2, none⟩ = some (.slice Ao43 t406.length co43) := yc BK390.out 2
                have hfz205_0 := yZ BK390.out 0
                have hfz205_1 := yZ BK390.out 1
                have hfz205_2 := yZ BK390.out 2
                go_wp2_with (first | ((with_reducible refine gate_callee (f := 15) rfl ?_); refine goesL_ (some 126) rfl rfl Try.func15 (by kernel_rfl) rfl #[.agg #[.int .i64 t381, .slice Ao42 t405.length co42, .slice Ao43 t406.length co43], .int .i64 1] rfl (by (try simp only [List.map_toArray, List.map_cons, List.map_nil]); first | done | rfl | (simp only [List.length_drop, List.length_take]; rfl)) ?_; (with_reducible refine (laws_heldFree.calls kj128 t381 _ _ t405 _ _ t406 1 t426 _ ?side1 ?side2 ?side3 ?side4 A186.out).mono ?_); (case side1 => repeat (first | exact (Kd.R_reads' p4'.out).2.2 | (with_reducible refine cA ?_ _) | (with_reducible refine cN ?_ _) | (with_reducible refine cD ?_))); (case side2 => exact (Kd.R_reads' p4'.out).2.1); (case side3 => repeat (first | exact (Kd.R_reads' p5'.out).2.2 | (with_reducible refine cA ?_ _) | (with_reducible refine cN ?_ _) | (with_reducible refine cD ?_))); (case side4 => exact (Kd.R_reads' p5'.out).2.1); rintro e w206 ⟨rfl, hb⟩; refine ⟨_, rfl, ?_⟩; replace p0' := xK p0'.out hb; replace p1' := xK p1'.out hb; replace p2' := xK p2'.out hb; replace p3' := xK p3'.out hb; replace p4' := xK p4'.out hb; replace p5' := xK p5'.out hb; replace p6' := xK p6'.out hb; replace p7' := xK p7'.out hb; replace BK354 := yK BK354.out hb; replace BK372 := yK BK372.out hb; replace BK380 := yK BK380.out hb; replace BK390 := yK BK390.out hb; replace BK424 := yK BK424.out hb; replace HB := aM (zT (zH HB.out) hb); (try clear hb)))
                go_ret
                exact ⟨by first | rfl | (simp [errW_none, errW_some] <;> rfl) | (simp [*, errW_none, errW_some] <;> rfl), zH HB.out⟩
          ·rw [if_neg c126] at H
           have c126b0 : (t407 == t404) = false := beq_eq_false_iff_ne.mpr c126
           have c126b1 : (t407 != t404) = true := bne_iff_ne.mpr c126
           obtain rfl := Option.some.inj H
           have hnb207 := NB390_354.out
           have hnc207 := NB354_390.out
           have hnb208 := NB390_372.out
           have hnc208 := NB372_390.out
           have hnb209 := NB390_380.out
           have hnc209 := NB380_390.out
           have hcz210_0 : wc.cell? ⟨gb390, 0, none⟩ = some (.int .i64 t381) := yc BK390.out 0
           have hcz210_1 : wc.cell? ⟨gb390, 1, none⟩ = some (.slice Ao42 t382.length co42) := yc BK390.out 1
           have hcz210_2 : wc.cell? ⟨gb390, 2, none⟩ = some (.slice Ao43 t385.length co43) := yc BK390.out 2
           have hfz210_0 := yZ BK390.out 0
           have hfz210_1 := yZ BK390.out 1
           have hfz210_2 := yZ BK390.out 2
           go_wp2_with (first | ((with_reducible refine gate_callee (f := 14) rfl ?_); refine goesL_ (some 91) rfl rfl Try.func14 (by kernel_rfl) rfl #[.agg #[.int .i64 t381, .slice Ao42 t382.length co42, .slice Ao43 t385.length co43], .int .i64 1] rfl (by (try simp only [List.map_toArray, List.map_cons, List.map_nil]); first | done | rfl | (simp only [List.length_drop, List.length_take]; rfl)) ?_; (with_reducible refine (laws_markFree.calls kj75 t381 (fun k_ => some k_ = oB Ao42 t382.length co42) (.slice Ao42 t382.length co42) t382 (fun k_ => some k_ = oB Ao43 t385.length co43) (.slice Ao43 t385.length co43) t385 1 t404 t405 t406 w _ ?side1 ?side2 ?side3 ?side4 ?side5 A116.out).mono ?_); (case side1 => repeat (first | (with_reducible first | exact HB.out | apply zA | apply zN | apply zD | refine zS ?_ GE354.out | refine zS ?_ GE372.out | refine zS ?_ GE380.out | refine zS ?_ GE390.out) | exact HB.out)); (case side2 => exact Kd.R_tight rfl p4'.out); (case side3 => exact fun k_ e_ => (p4'.out.1 k_ e_.symm).2.2.2.2); (case side4 => exact Kd.R_tight rfl p5'.out); (case side5 => exact fun k_ e_ => (p5'.out.1 k_ e_.symm).2.2.2.2); rintro e w211 ⟨rfl, hy0, hy1, hb, hkp⟩; refine ⟨_, rfl, ?_⟩; replace p0' := kB p0'.out hkp (fun k_ hk_ hs_ => Or.elim hs_ (fun e_ => (hk_.2.2.2.1) e_) (fun e_ => (hk_.2.2.2.2) e_)); replace p1' := kB p1'.out hkp (fun k_ hk_ hs_ => Or.elim hs_ (fun e_ => (hk_.2.2.2.1) e_) (fun e_ => (hk_.2.2.2.2) e_)); replace p2' := kB p2'.out hkp (fun k_ hk_ hs_ => Or.elim hs_ (fun e_ => (hk_.2.2.2.1) e_) (fun e_ => (hk_.2.2.2.2) e_)); replace p3' := kB p3'.out hkp (fun k_ hk_ hs_ => Or.elim hs_ (fun e_ => (hk_.2.2.2.1) e_) (fun e_ => (hk_.2.2.2.2) e_)); replace BK354 := aM (blk_kept BK354.out hkp (fun hs_ => Or.elim hs_ (fun e_ => (fun e_ => (Kd.R_ne p4'.out BK354.out (by decide)) e_) e_) (fun e_ => (fun e_ => (Kd.R_ne p5'.out BK354.out (by decide)) e_) e_))); replace BK372 := aM (blk_kept BK372.out hkp (fun hs_ => Or.elim hs_ (fun e_ => (fun e_ => (Kd.R_ne p4'.out BK372.out (by decide)) e_) e_) (fun e_ => (fun e_ => (Kd.R_ne p5'.out BK372.out (by decide)) e_) e_))); replace BK380 := aM (blk_kept BK380.out hkp (fun hs_ => Or.elim hs_ (fun e_ => (fun e_ => (Kd.R_ne p4'.out BK380.out (by decide)) e_) e_) (fun e_ => (fun e_ => (Kd.R_ne p5'.out BK380.out (by decide)) e_) e_))); replace BK390 := aM (blk_kept BK390.out hkp (fun hs_ => Or.elim hs_ (fun e_ => (fun e_ => (Kd.R_ne p4'.out BK390.out (by decide)) e_) e_) (fun e_ => (fun e_ => (Kd.R_ne p5'.out BK390.out (by decide)) e_) e_))); replace p4' := aM (Kd.R_reok rfl hy0 (fun k_ e_ => p4'.out.1 k_ e_)); replace p5' := aM (Kd.R_reok rfl hy1 (fun k_ e_ => p5'.out.1 k_ e_)); replace HB := aM (hb); (try clear hb); (try clear hkp); (try clear hy0); (try clear hy1); have hcz212_0 : w211.cell? ⟨gb390, 0, none⟩ = some (.int .i64 t381) := yc BK390.out 0; have hcz212_1 : w211.cell? ⟨gb390, 1, none⟩ = some (.slice Ao42 t382.length co42) := yc BK390.out 1; have hcz212_2 : w211.cell? ⟨gb390, 2, none⟩ = some (.slice Ao43 t385.length co43) := yc BK390.out 2; have hfz212_0 := yZ BK390.out 0; have hfz212_1 := yZ BK390.out 1; have hfz212_2 := yZ BK390.out 2) | ((with_reducible refine gate_callee (f := 15) rfl ?_); refine goesL_ (some 94) rfl rfl Try.func15 (by kernel_rfl) rfl #[.agg #[.int .i64 t381, .slice Ao42 t405.length co42, .slice Ao43 t406.length co43], .int .i64 1] rfl (by (try simp only [List.map_toArray, List.map_cons, List.map_nil]); first | done | (rw [show t405.length = t382.length from (Kd.R_reads' p4'.out).1.symm, show t406.length = t385.length from (Kd.R_reads' p5'.out).1.symm] <;> rfl) | rfl | (simp only [List.length_drop, List.length_take]; rfl)) ?_; (with_reducible refine (laws_heldFree.calls kj75 t381 _ _ t405 _ _ t406 1 t407 _ ?side1 ?side2 ?side3 ?side4 A117.out).mono ?_); (case side1 => repeat (first | exact (Kd.R_reads' p4'.out).2.2 | (with_reducible refine cA ?_ _) | (with_reducible refine cN ?_ _) | (with_reducible refine cD ?_))); (case side2 => rw [show t405.length = t382.length from (Kd.R_reads' p4'.out).1.symm]; exact (Kd.R_reads' p4'.out).2.1); (case side3 => repeat (first | exact (Kd.R_reads' p5'.out).2.2 | (with_reducible refine cA ?_ _) | (with_reducible refine cN ?_ _) | (with_reducible refine cD ?_))); (case side4 => rw [show t406.length = t385.length from (Kd.R_reads' p5'.out).1.symm]; exact (Kd.R_reads' p5'.out).2.1); rintro e w213 ⟨rfl, hb⟩; refine ⟨_, rfl, ?_⟩; replace p0' := xK p0'.out hb; replace p1' := xK p1'.out hb; replace p2' := xK p2'.out hb; replace p3' := xK p3'.out hb; replace p4' := xK p4'.out hb; replace p5' := xK p5'.out hb; replace BK354 := yK BK354.out hb; replace BK372 := yK BK372.out hb; replace BK380 := yK BK380.out hb; replace BK390 := yK BK390.out hb; replace HB := aM (zT (zH HB.out) hb); (try clear hb)))
           go_ret
           exact ⟨by first | rfl | (simp [errW_none, errW_some] <;> rfl) | (simp [*, errW_none, errW_some] <;> rfl), zH HB.out⟩
     ·replace c74 := Bool.eq_false_iff.mpr c74
      subst c74
      have H1 : (some false) = some r := by rw [if_neg (show ¬ (false = true) by decide)] at H; exact H
      clear H
      have H := H1
      clear H1
      exact absurd (H.trans (congrArg some HR_.out)) (by decide)
def okS47 (x : S47) : Prop := (Lit.int .i64 x.f0).wf = true ∧ (Lit.int .i64 x.f1).wf = true
/-- The one pure statement of laws_FnExactTakeRoom. -/
def laws_FnExactTakeRoom.PureG : Prop := ∀ (a0_0 : Int) (l0_1 : List (S47)) (l0_2 : List (S47)) (a1 : Int) (a2 : Int) (a3 : Int), (Lit.int .i64 a0_0).wf = true → (l0_1.length ≤ maxLen ∧ ∀ x_ ∈ l0_1, okS47 x_) → (l0_2.length ≤ maxLen ∧ ∀ x_ ∈ l0_2, okS47 x_) → (Lit.int .i64 a1).wf = true → (Lit.int .i64 a2).wf = true → (Lit.int .i64 a3).wf = true → ∃ k, laws_FnExactTakeRoom.f k a0_0 l0_1 l0_2 a1 a2 a3 = some true

end Go.Proofs.Ytfhfaeeokibhaaa.PFnExactTakeRoom
