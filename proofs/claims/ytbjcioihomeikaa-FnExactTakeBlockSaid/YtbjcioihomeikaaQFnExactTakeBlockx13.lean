/- The walks of FnExactTakeBlock: Go's calls come to what the Lean functions beside them say; no condition. -/
import Derived.Test.YtbjcioihomeikaaQFnExactTakeBlockx0
import Derived.Test.YtbjcioihomeikaaQFnExactTakeBlockx2
import Derived.Test.YtbjcioihomeikaaQFnExactTakeBlockx3
import Derived.Test.YtbjcioihomeikaaQFnExactTakeBlockx7
import Derived.Test.YtbjcioihomeikaaQFnExactTakeBlockx12
namespace Go.Proofs.Ytbjcioihomeikaa.PFnExactTakeBlock
open Go.RowKit Go.Proofs.YtbjcioihomeikaaW.PrintWords Go.Proofs.YtbjcioihomeikaaW.PrintLast Go.Proofs.YtbjcioihomeikaaW.PrintMore
attribute [local go_sem] max2_int min2_int max_two min_two max_three min_three max_four min_four   -- for this text's walks alone
set_option linter.unusedVariables false
set_option linter.unusedSimpArgs false
set_option maxRecDepth 100000

/-! ### laws_FnExactTakeBlock: function 4 -/
mutual
def laws_FnExactTakeBlock.j0 : Nat → Int → Int → Bool → Int → Bool → Bool → Int → List (S80) → List (S80) → Int → List (S45) → List (S45) → Int → List (S45) → List (S45) → Int → List (S45) → List (S45) → Option (Bool)
 | 0, _, _, _, _, _, _, _, _, _, _, _, _, _, _, _, _, _, _ => none
 | k + 1, x1, x7, x8, x11, x12, x54, x304000, x304001, x304002, x322000, x322001, x322002, x330000, x330001, x330002, x340000, x340001, x340002 => if x54 = true then (some false) else ((laws_toBuddy.f k x304000 x304001 x304002).bind fun bt341 => ((laws_eqBuddy.f k x330000 x330001 x330002 bt341.1 bt341.2.1 bt341.2.2).bind fun t348 => (if t348 = true then ((laws_markBuddy.f k x330000 x330001 x330002 1).bind fun bt349 => (if bt349.1 < 0 then (laws_FnExactTakeBlock.j1 k x1 x7 x8 true x304000 x304001 x304002 x322000 x322001 x322002 x340000 x340001 x340002) else ((laws_eqBuddy.f k x340000 x340001 x340002 x322000 x322001 x322002).bind fun t352 => (if t352 = true then (if x11 = x7 then (laws_FnExactTakeBlock.j1 k x1 x7 x8 (x12 != x8) x304000 x304001 x304002 x322000 x322001 x322002 x340000 x340001 x340002) else (laws_FnExactTakeBlock.j1 k x1 x7 x8 true x304000 x304001 x304002 x322000 x322001 x322002 x340000 x340001 x340002)) else (laws_FnExactTakeBlock.j1 k x1 x7 x8 true x304000 x304001 x304002 x322000 x322001 x322002 x340000 x340001 x340002))))) else (some false))))
def laws_FnExactTakeBlock.j1 : Nat → Int → Int → Bool → Bool → Int → List (S80) → List (S80) → Int → List (S45) → List (S45) → Int → List (S45) → List (S45) → Option (Bool)
 | 0, _, _, _, _, _, _, _, _, _, _, _, _, _ => none
 | k + 1, x1, x7, x8, x80, x304000, x304001, x304002, x322000, x322001, x322002, x340000, x340001, x340002 => if x80 = true then (some false) else ((laws_markBuddy.f k x340000 x340001 x340002 1).bind fun bt353 => ((laws_heldBuddy.f k x340000 bt353.2.1 bt353.2.2 1).bind fun t356 => (if t356 < 0 then (some false) else (if t356 = bt353.1 then ((laws_toBuddy.f k x304000 x304001 x304002).bind fun bt357 => ((impl_TakeBlock.f k bt357.1 bt357.2.1 bt357.2.2 x1).bind fun bt364 => ((laws_eqBuddy.f k bt364.1 bt364.2.1 bt364.2.2.1 x322000 x322001 x322002).bind fun t374 => (if t374 = true then (if bt364.2.2.2.1 = x7 then (laws_FnExactTakeBlock.j2 k bt353.1 (bt364.2.2.2.2 != x8) x340000 bt353.2.1 bt353.2.2) else (laws_FnExactTakeBlock.j2 k bt353.1 true x340000 bt353.2.1 bt353.2.2)) else (laws_FnExactTakeBlock.j2 k bt353.1 true x340000 bt353.2.1 bt353.2.2))))) else (some false)))))
def laws_FnExactTakeBlock.j2 : Nat → Int → Bool → Int → List (S45) → List (S45) → Option (Bool)
 | 0, _, _, _, _, _ => none
 | k + 1, x14, x113, x340000, x340001, x340002 => if x113 = true then (some false) else ((laws_heldBuddy.f k x340000 x340001 x340002 1).bind fun t375 => (if t375 < 0 then (some false) else (if t375 = x14 then (some true) else (some false))))
end
def laws_FnExactTakeBlock.f (k : Nat) (a0_0 : Int) (l0_1 : List (S80)) (l0_2 : List (S80)) (a1 : Int) : Option (Bool) := (laws_szBuddy.f a0_0 l0_1 l0_2 1048576).bind fun t304 => (if t304 < 0 then (some true) else ((laws_toBuddy.f k a0_0 l0_1 l0_2).bind fun bt305 => ((spec_TakeBlock.f k bt305.1 bt305.2.1 bt305.2.2 a1).bind fun bt312 => ((laws_toBuddy.f k a0_0 l0_1 l0_2).bind fun bt322 => ((impl_TakeBlock.f k bt322.1 bt322.2.1 bt322.2.2 a1).bind fun bt330 => ((laws_eqBuddy.f k bt330.1 bt330.2.1 bt330.2.2.1 bt312.1 bt312.2.1 bt312.2.2.1).bind fun t340 => (if t340 = true then (if bt330.2.2.2.1 = bt312.2.2.2.1 then (laws_FnExactTakeBlock.j0 k a1 bt312.2.2.2.1 bt312.2.2.2.2 bt330.2.2.2.1 bt330.2.2.2.2 (bt330.2.2.2.2 != bt312.2.2.2.2) a0_0 l0_1 l0_2 bt312.1 bt312.2.1 bt312.2.2.1 bt322.1 bt322.2.1 bt322.2.2 bt330.1 bt330.2.1 bt330.2.2.1) else (laws_FnExactTakeBlock.j0 k a1 bt312.2.2.2.1 bt312.2.2.2.2 bt330.2.2.2.1 bt330.2.2.2.2 true a0_0 l0_1 l0_2 bt312.1 bt312.2.1 bt312.2.2.1 bt322.1 bt322.2.1 bt322.2.2 bt330.1 bt330.2.1 bt330.2.2.1)) else (laws_FnExactTakeBlock.j0 k a1 bt312.2.2.2.1 bt312.2.2.2.2 bt330.2.2.2.1 bt330.2.2.2.2 true a0_0 l0_1 l0_2 bt312.1 bt312.2.1 bt312.2.2.1 bt322.1 bt322.2.1 bt322.2.2 bt330.1 bt330.2.1 bt330.2.2.1))))))))
theorem laws_FnExactTakeBlock.mono_l : ∀ k, (∀ y0 y1 y2 y3 y4 y5 y6 y7 y8 y9 y10 y11 y12 y13 y14 y15 y16 y17, LeO (laws_FnExactTakeBlock.j0 k y0 y1 y2 y3 y4 y5 y6 y7 y8 y9 y10 y11 y12 y13 y14 y15 y16 y17) (laws_FnExactTakeBlock.j0 (k + 1) y0 y1 y2 y3 y4 y5 y6 y7 y8 y9 y10 y11 y12 y13 y14 y15 y16 y17)) ∧ (∀ y0 y1 y2 y3 y4 y5 y6 y7 y8 y9 y10 y11 y12, LeO (laws_FnExactTakeBlock.j1 k y0 y1 y2 y3 y4 y5 y6 y7 y8 y9 y10 y11 y12) (laws_FnExactTakeBlock.j1 (k + 1) y0 y1 y2 y3 y4 y5 y6 y7 y8 y9 y10 y11 y12)) ∧ (∀ y0 y1 y2 y3 y4, LeO (laws_FnExactTakeBlock.j2 k y0 y1 y2 y3 y4) (laws_FnExactTakeBlock.j2 (k + 1) y0 y1 y2 y3 y4))
 | 0 => ⟨fun _ _ _ _ _ _ _ _ _ _ _ _ _ _ _ _ _ _ r h => by simp [laws_FnExactTakeBlock.j0] at h, fun _ _ _ _ _ _ _ _ _ _ _ _ _ r h => by simp [laws_FnExactTakeBlock.j1] at h, fun _ _ _ _ _ r h => by simp [laws_FnExactTakeBlock.j2] at h⟩
 | k + 1 => by
  obtain ⟨ih0, ih1, ih2⟩ := laws_FnExactTakeBlock.mono_l k
  refine ⟨?_, ?_, ?_⟩
  ·intro y0 y1 y2 y3 y4 y5 y6 y7 y8 y9 y10 y11 y12 y13 y14 y15 y16 y17
   unfold laws_FnExactTakeBlock.j0
   repeat' first
   | (with_reducible exact ih0 _ _ _ _ _ _ _ _ _ _ _ _ _ _ _ _ _ _)
   | (with_reducible exact ih1 _ _ _ _ _ _ _ _ _ _ _ _ _)
   | (with_reducible exact ih2 _ _ _ _ _)
   | (with_reducible exact impl_TakeBlock.mono _ _ _ _ _)
   | (with_reducible exact laws_eqBuddy.mono _ _ _ _ _ _ _)
   | (with_reducible exact laws_heldBuddy.mono _ _ _ _ _)
   | (with_reducible exact laws_markBuddy.mono _ _ _ _ _)
   | (with_reducible exact laws_toBuddy.mono _ _ _ _)
   | (with_reducible exact spec_TakeBlock.mono _ _ _ _ _)
   | (with_reducible exact LeO.refl _)
   | (with_reducible exact LeO.none _)
   | (with_reducible refine LeO.ite ?_ ?_)
   | (with_reducible refine LeO.bind ?_ (fun _ => ?_))
   | exact ih0 _ _ _ _ _ _ _ _ _ _ _ _ _ _ _ _ _ _
   | exact ih1 _ _ _ _ _ _ _ _ _ _ _ _ _
   | exact ih2 _ _ _ _ _
   | exact impl_TakeBlock.mono _ _ _ _ _
   | exact laws_eqBuddy.mono _ _ _ _ _ _ _
   | exact laws_heldBuddy.mono _ _ _ _ _
   | exact laws_markBuddy.mono _ _ _ _ _
   | exact laws_toBuddy.mono _ _ _ _
   | exact spec_TakeBlock.mono _ _ _ _ _
   | exact LeO.none _
   | refine LeO.ite ?_ ?_
   | refine LeO.bind ?_ (fun _ => ?_)
  ·intro y0 y1 y2 y3 y4 y5 y6 y7 y8 y9 y10 y11 y12
   unfold laws_FnExactTakeBlock.j1
   repeat' first
   | (with_reducible exact ih0 _ _ _ _ _ _ _ _ _ _ _ _ _ _ _ _ _ _)
   | (with_reducible exact ih1 _ _ _ _ _ _ _ _ _ _ _ _ _)
   | (with_reducible exact ih2 _ _ _ _ _)
   | (with_reducible exact impl_TakeBlock.mono _ _ _ _ _)
   | (with_reducible exact laws_eqBuddy.mono _ _ _ _ _ _ _)
   | (with_reducible exact laws_heldBuddy.mono _ _ _ _ _)
   | (with_reducible exact laws_markBuddy.mono _ _ _ _ _)
   | (with_reducible exact laws_toBuddy.mono _ _ _ _)
   | (with_reducible exact spec_TakeBlock.mono _ _ _ _ _)
   | (with_reducible exact LeO.refl _)
   | (with_reducible exact LeO.none _)
   | (with_reducible refine LeO.ite ?_ ?_)
   | (with_reducible refine LeO.bind ?_ (fun _ => ?_))
   | exact ih0 _ _ _ _ _ _ _ _ _ _ _ _ _ _ _ _ _ _
   | exact ih1 _ _ _ _ _ _ _ _ _ _ _ _ _
   | exact ih2 _ _ _ _ _
   | exact impl_TakeBlock.mono _ _ _ _ _
   | exact laws_eqBuddy.mono _ _ _ _ _ _ _
   | exact laws_heldBuddy.mono _ _ _ _ _
   | exact laws_markBuddy.mono _ _ _ _ _
   | exact laws_toBuddy.mono _ _ _ _
   | exact spec_TakeBlock.mono _ _ _ _ _
   | exact LeO.none _
   | refine LeO.ite ?_ ?_
   | refine LeO.bind ?_ (fun _ => ?_)
  ·intro y0 y1 y2 y3 y4
   unfold laws_FnExactTakeBlock.j2
   repeat' first
   | (with_reducible exact ih0 _ _ _ _ _ _ _ _ _ _ _ _ _ _ _ _ _ _)
   | (with_reducible exact ih1 _ _ _ _ _ _ _ _ _ _ _ _ _)
   | (with_reducible exact ih2 _ _ _ _ _)
   | (with_reducible exact impl_TakeBlock.mono _ _ _ _ _)
   | (with_reducible exact laws_eqBuddy.mono _ _ _ _ _ _ _)
   | (with_reducible exact laws_heldBuddy.mono _ _ _ _ _)
   | (with_reducible exact laws_markBuddy.mono _ _ _ _ _)
   | (with_reducible exact laws_toBuddy.mono _ _ _ _)
   | (with_reducible exact spec_TakeBlock.mono _ _ _ _ _)
   | (with_reducible exact LeO.refl _)
   | (with_reducible exact LeO.none _)
   | (with_reducible refine LeO.ite ?_ ?_)
   | (with_reducible refine LeO.bind ?_ (fun _ => ?_))
   | exact ih0 _ _ _ _ _ _ _ _ _ _ _ _ _ _ _ _ _ _
   | exact ih1 _ _ _ _ _ _ _ _ _ _ _ _ _
   | exact ih2 _ _ _ _ _
   | exact impl_TakeBlock.mono _ _ _ _ _
   | exact laws_eqBuddy.mono _ _ _ _ _ _ _
   | exact laws_heldBuddy.mono _ _ _ _ _
   | exact laws_markBuddy.mono _ _ _ _ _
   | exact laws_toBuddy.mono _ _ _ _
   | exact spec_TakeBlock.mono _ _ _ _ _
   | exact LeO.none _
   | refine LeO.ite ?_ ?_
   | refine LeO.bind ?_ (fun _ => ?_)
theorem laws_FnExactTakeBlock.mono : ∀ a0 a1 a2 a3 k, LeO (laws_FnExactTakeBlock.f k a0 a1 a2 a3) (laws_FnExactTakeBlock.f (k + 1) a0 a1 a2 a3) := by
 intro a0 a1 a2 a3 k
 obtain ⟨ih0, ih1, ih2⟩ := laws_FnExactTakeBlock.mono_l k
 unfold laws_FnExactTakeBlock.f
 repeat' first
   | (with_reducible exact ih0 _ _ _ _ _ _ _ _ _ _ _ _ _ _ _ _ _ _)
   | (with_reducible exact ih1 _ _ _ _ _ _ _ _ _ _ _ _ _)
   | (with_reducible exact ih2 _ _ _ _ _)
   | (with_reducible exact impl_TakeBlock.mono _ _ _ _ _)
   | (with_reducible exact laws_eqBuddy.mono _ _ _ _ _ _ _)
   | (with_reducible exact laws_heldBuddy.mono _ _ _ _ _)
   | (with_reducible exact laws_markBuddy.mono _ _ _ _ _)
   | (with_reducible exact laws_toBuddy.mono _ _ _ _)
   | (with_reducible exact spec_TakeBlock.mono _ _ _ _ _)
   | (with_reducible exact LeO.refl _)
   | (with_reducible exact LeO.none _)
   | (with_reducible refine LeO.ite ?_ ?_)
   | (with_reducible refine LeO.bind ?_ (fun _ => ?_))
   | exact ih0 _ _ _ _ _ _ _ _ _ _ _ _ _ _ _ _ _ _
   | exact ih1 _ _ _ _ _ _ _ _ _ _ _ _ _
   | exact ih2 _ _ _ _ _
   | exact impl_TakeBlock.mono _ _ _ _ _
   | exact laws_eqBuddy.mono _ _ _ _ _ _ _
   | exact laws_heldBuddy.mono _ _ _ _ _
   | exact laws_markBuddy.mono _ _ _ _ _
   | exact laws_toBuddy.mono _ _ _ _
   | exact spec_TakeBlock.mono _ _ _ _ _
   | exact LeO.none _
   | refine LeO.ite ?_ ?_
   | refine LeO.bind ?_ (fun _ => ?_)
set_option maxHeartbeats 8000000 in
set_option maxRecDepth 100000 in
theorem laws_FnExactTakeBlock.calls (k : Nat) (a0_0 : Int) (A0_1 : Option Addr) (c0_1 : Nat) (l0_1 : List (S80)) (A0_2 : Option Addr) (c0_2 : Nat) (l0_2 : List (S80)) (a1 : Int) (r : Bool) (w : World) (hr0_1 : Kd.C k80 w A0_1 l0_1.length l0_1) (hc0_1 : l0_1.length ≤ c0_1) (hr0_2 : Kd.C k80 w A0_2 l0_2.length l0_2) (hc0_2 : l0_2.length ≤ c0_2) (h : laws_FnExactTakeBlock.f k a0_0 l0_1 l0_2 a1 = some r) (hr_ : r = true := by rfl) :
  Calls Try.prog 4 #[.agg #[.int .i64 a0_0, .slice A0_1 l0_1.length c0_1, .slice A0_2 l0_2.length c0_2], .int .i64 a1] w fun e w' => e = .returned (.bool r) ∧ Below w.heap.size w w' := by
 have HR_ := aM hr_
 clear hr_
 have hu24 := Try.underlying24
 have hu28 := Try.underlying28
 have HR0_1 := aM hr0_1
 have HC0_1 := aM hc0_1
 clear hr0_1 hc0_1
 have HR0_2 := aM hr0_2
 have HC0_2 := aM hc0_2
 clear hr0_2 hc0_2
 have HB := aM (Below.refl w.heap.size w)
 have H : ((laws_szBuddy.f a0_0 l0_1 l0_2 1048576).bind fun t304 => (if t304 < 0 then (some true) else ((laws_toBuddy.f k a0_0 l0_1 l0_2).bind fun bt305 => ((spec_TakeBlock.f k bt305.1 bt305.2.1 bt305.2.2 a1).bind fun bt312 => ((laws_toBuddy.f k a0_0 l0_1 l0_2).bind fun bt322 => ((impl_TakeBlock.f k bt322.1 bt322.2.1 bt322.2.2 a1).bind fun bt330 => ((laws_eqBuddy.f k bt330.1 bt330.2.1 bt330.2.2.1 bt312.1 bt312.2.1 bt312.2.2.1).bind fun t340 => (if t340 = true then (if bt330.2.2.2.1 = bt312.2.2.2.1 then (laws_FnExactTakeBlock.j0 k a1 bt312.2.2.2.1 bt312.2.2.2.2 bt330.2.2.2.1 bt330.2.2.2.2 (bt330.2.2.2.2 != bt312.2.2.2.2) a0_0 l0_1 l0_2 bt312.1 bt312.2.1 bt312.2.2.1 bt322.1 bt322.2.1 bt322.2.2 bt330.1 bt330.2.1 bt330.2.2.1) else (laws_FnExactTakeBlock.j0 k a1 bt312.2.2.2.1 bt312.2.2.2.2 bt330.2.2.2.1 bt330.2.2.2.2 true a0_0 l0_1 l0_2 bt312.1 bt312.2.1 bt312.2.2.1 bt322.1 bt322.2.1 bt322.2.2 bt330.1 bt330.2.1 bt330.2.2.1)) else (laws_FnExactTakeBlock.j0 k a1 bt312.2.2.2.1 bt312.2.2.2.2 bt330.2.2.2.1 bt330.2.2.2.2 true a0_0 l0_1 l0_2 bt312.1 bt312.2.1 bt312.2.2.1 bt322.1 bt322.2.1 bt322.2.2 bt330.1 bt330.2.1 bt330.2.2.1))))))))) = some r := h
 clear h
 replace H := Option.bind_eq_some_iff.mp H
 obtain ⟨t304, A30, H⟩ := H
 replace H : (if t304 < 0 then (some true) else ((laws_toBuddy.f k a0_0 l0_1 l0_2).bind fun bt305 => ((spec_TakeBlock.f k bt305.1 bt305.2.1 bt305.2.2 a1).bind fun bt312 => ((laws_toBuddy.f k a0_0 l0_1 l0_2).bind fun bt322 => ((impl_TakeBlock.f k bt322.1 bt322.2.1 bt322.2.2 a1).bind fun bt330 => ((laws_eqBuddy.f k bt330.1 bt330.2.1 bt330.2.2.1 bt312.1 bt312.2.1 bt312.2.2.1).bind fun t340 => (if t340 = true then (if bt330.2.2.2.1 = bt312.2.2.2.1 then (laws_FnExactTakeBlock.j0 k a1 bt312.2.2.2.1 bt312.2.2.2.2 bt330.2.2.2.1 bt330.2.2.2.2 (bt330.2.2.2.2 != bt312.2.2.2.2) a0_0 l0_1 l0_2 bt312.1 bt312.2.1 bt312.2.2.1 bt322.1 bt322.2.1 bt322.2.2 bt330.1 bt330.2.1 bt330.2.2.1) else (laws_FnExactTakeBlock.j0 k a1 bt312.2.2.2.1 bt312.2.2.2.2 bt330.2.2.2.1 bt330.2.2.2.2 true a0_0 l0_1 l0_2 bt312.1 bt312.2.1 bt312.2.2.1 bt322.1 bt322.2.1 bt322.2.2 bt330.1 bt330.2.1 bt330.2.2.1)) else (laws_FnExactTakeBlock.j0 k a1 bt312.2.2.2.1 bt312.2.2.2.2 bt330.2.2.2.1 bt330.2.2.2.2 true a0_0 l0_1 l0_2 bt312.1 bt312.2.1 bt312.2.2.1 bt322.1 bt322.2.1 bt322.2.2 bt330.1 bt330.2.1 bt330.2.2.1)))))))) = some r := H
 have A3 := aM A30
 clear A30
 by_cases c4 : t304 < 0
 ·rw [if_pos c4] at H
  have c4b0 : decide (t304 < 0) = true := decide_eq_true c4
  clear c4
  obtain rfl := Option.some.inj H
  go_enter Try.func4, Try.ntmps4
  go_wp2_with (first | ((with_reducible refine gate_dst (N := 2) rfl ?_); refine box_event ?hg (N := 2) ?hd (cs := #[.int .i64 a0_0, .slice A0_1 l0_1.length c0_1, .slice A0_2 l0_2.length c0_2]) (t := 24) ?hr ?_; (case hd => rfl); (case hg => rfl); (case hr => first | (go_simp; done) | (go_simp; rfl)); intro gb303 hg w5 hbox hb; have BK303 := aM (hbox); have GW303 := aM ((by rw [hg]; exact (zZ (zH HB.out)) : w.heap.size ≤ gb303)); have GE303 := aM ((by rw [hg]; exact (zZ (zH HB.out)) : w.heap.size ≤ gb303)); replace HB := aM (zT (zH HB.out) hb); clear hb hbox hg; have hcz6_0 : w5.cell? ⟨gb303, 0, none⟩ = some (.int .i64 a0_0) := yc BK303.out 0; have hcz6_1 : w5.cell? ⟨gb303, 1, none⟩ = some (.slice A0_1 l0_1.length c0_1) := yc BK303.out 1; have hcz6_2 : w5.cell? ⟨gb303, 2, none⟩ = some (.slice A0_2 l0_2.length c0_2) := yc BK303.out 2; have hfz6_0 := yZ BK303.out 0; have hfz6_1 := yZ BK303.out 1; have hfz6_2 := yZ BK303.out 2) | ((with_reducible refine gate_callee (f := 8) rfl ?_); refine goesL_ (some 21) rfl rfl Try.func8 (by kernel_rfl) rfl #[.agg #[.int .i64 a0_0, .slice A0_1 l0_1.length c0_1, .slice A0_2 l0_2.length c0_2], .int .i64 1048576] rfl (by (try simp only [List.map_toArray, List.map_cons, List.map_nil]); first | done | rfl | (simp only [List.length_drop, List.length_take]; rfl)) ?_; (with_reducible refine (laws_szBuddy.calls a0_0 _ _ l0_1 _ _ l0_2 1048576 t304 _ ?side1 ?side2 ?side3 ?side4 A3.out).mono ?_); (case side1 => exact cK HR0_1.out HB.out); (case side2 => exact HC0_1.out); (case side3 => exact cK HR0_2.out HB.out); (case side4 => exact HC0_2.out); rintro e w7 ⟨rfl, hb⟩; refine ⟨_, rfl, ?_⟩; replace BK303 := yK BK303.out hb; replace HB := aM (zT (zH HB.out) hb); (try clear hb)))
  go_ret
  exact ⟨by first | rfl | (simp [errW_none, errW_some] <;> rfl) | (simp [*, errW_none, errW_some] <;> rfl), zH HB.out⟩
 ·rw [if_neg c4] at H
  have c4b0 : decide (t304 < 0) = false := decide_eq_false c4
  clear c4
  replace H := Option.bind_eq_some_iff.mp H
  obtain ⟨⟨t305, t306, t309⟩, A80, H⟩ := H
  replace H : ((spec_TakeBlock.f k t305 t306 t309 a1).bind fun bt312 => ((laws_toBuddy.f k a0_0 l0_1 l0_2).bind fun bt322 => ((impl_TakeBlock.f k bt322.1 bt322.2.1 bt322.2.2 a1).bind fun bt330 => ((laws_eqBuddy.f k bt330.1 bt330.2.1 bt330.2.2.1 bt312.1 bt312.2.1 bt312.2.2.1).bind fun t340 => (if t340 = true then (if bt330.2.2.2.1 = bt312.2.2.2.1 then (laws_FnExactTakeBlock.j0 k a1 bt312.2.2.2.1 bt312.2.2.2.2 bt330.2.2.2.1 bt330.2.2.2.2 (bt330.2.2.2.2 != bt312.2.2.2.2) a0_0 l0_1 l0_2 bt312.1 bt312.2.1 bt312.2.2.1 bt322.1 bt322.2.1 bt322.2.2 bt330.1 bt330.2.1 bt330.2.2.1) else (laws_FnExactTakeBlock.j0 k a1 bt312.2.2.2.1 bt312.2.2.2.2 bt330.2.2.2.1 bt330.2.2.2.2 true a0_0 l0_1 l0_2 bt312.1 bt312.2.1 bt312.2.2.1 bt322.1 bt322.2.1 bt322.2.2 bt330.1 bt330.2.1 bt330.2.2.1)) else (laws_FnExactTakeBlock.j0 k a1 bt312.2.2.2.1 bt312.2.2.2.2 bt330.2.2.2.1 bt330.2.2.2.2 true a0_0 l0_1 l0_2 bt312.1 bt312.2.1 bt312.2.2.1 bt322.1 bt322.2.1 bt322.2.2 bt330.1 bt330.2.1 bt330.2.2.1)))))) = some r := H
  have A8 := aM A80
  clear A80
  replace H := Option.bind_eq_some_iff.mp H
  obtain ⟨⟨t312, t313, t316, t319, t320⟩, A90, H⟩ := H
  replace H : ((laws_toBuddy.f k a0_0 l0_1 l0_2).bind fun bt322 => ((impl_TakeBlock.f k bt322.1 bt322.2.1 bt322.2.2 a1).bind fun bt330 => ((laws_eqBuddy.f k bt330.1 bt330.2.1 bt330.2.2.1 t312 t313 t316).bind fun t340 => (if t340 = true then (if bt330.2.2.2.1 = t319 then (laws_FnExactTakeBlock.j0 k a1 t319 t320 bt330.2.2.2.1 bt330.2.2.2.2 (bt330.2.2.2.2 != t320) a0_0 l0_1 l0_2 t312 t313 t316 bt322.1 bt322.2.1 bt322.2.2 bt330.1 bt330.2.1 bt330.2.2.1) else (laws_FnExactTakeBlock.j0 k a1 t319 t320 bt330.2.2.2.1 bt330.2.2.2.2 true a0_0 l0_1 l0_2 t312 t313 t316 bt322.1 bt322.2.1 bt322.2.2 bt330.1 bt330.2.1 bt330.2.2.1)) else (laws_FnExactTakeBlock.j0 k a1 t319 t320 bt330.2.2.2.1 bt330.2.2.2.2 true a0_0 l0_1 l0_2 t312 t313 t316 bt322.1 bt322.2.1 bt322.2.2 bt330.1 bt330.2.1 bt330.2.2.1))))) = some r := H
  have A9 := aM A90
  clear A90
  replace H := Option.bind_eq_some_iff.mp H
  obtain ⟨⟨t322, t323, t326⟩, A100, H⟩ := H
  replace H : ((impl_TakeBlock.f k t322 t323 t326 a1).bind fun bt330 => ((laws_eqBuddy.f k bt330.1 bt330.2.1 bt330.2.2.1 t312 t313 t316).bind fun t340 => (if t340 = true then (if bt330.2.2.2.1 = t319 then (laws_FnExactTakeBlock.j0 k a1 t319 t320 bt330.2.2.2.1 bt330.2.2.2.2 (bt330.2.2.2.2 != t320) a0_0 l0_1 l0_2 t312 t313 t316 t322 t323 t326 bt330.1 bt330.2.1 bt330.2.2.1) else (laws_FnExactTakeBlock.j0 k a1 t319 t320 bt330.2.2.2.1 bt330.2.2.2.2 true a0_0 l0_1 l0_2 t312 t313 t316 t322 t323 t326 bt330.1 bt330.2.1 bt330.2.2.1)) else (laws_FnExactTakeBlock.j0 k a1 t319 t320 bt330.2.2.2.1 bt330.2.2.2.2 true a0_0 l0_1 l0_2 t312 t313 t316 t322 t323 t326 bt330.1 bt330.2.1 bt330.2.2.1)))) = some r := H
  have A10 := aM A100
  clear A100
  replace H := Option.bind_eq_some_iff.mp H
  obtain ⟨⟨t330, t331, t334, t337, t338⟩, A110, H⟩ := H
  replace H : ((laws_eqBuddy.f k t330 t331 t334 t312 t313 t316).bind fun t340 => (if t340 = true then (if t337 = t319 then (laws_FnExactTakeBlock.j0 k a1 t319 t320 t337 t338 (t338 != t320) a0_0 l0_1 l0_2 t312 t313 t316 t322 t323 t326 t330 t331 t334) else (laws_FnExactTakeBlock.j0 k a1 t319 t320 t337 t338 true a0_0 l0_1 l0_2 t312 t313 t316 t322 t323 t326 t330 t331 t334)) else (laws_FnExactTakeBlock.j0 k a1 t319 t320 t337 t338 true a0_0 l0_1 l0_2 t312 t313 t316 t322 t323 t326 t330 t331 t334))) = some r := H
  have A11 := aM A110
  clear A110
  have HC12 := aM H
  clear H
  go_enter Try.func4, Try.ntmps4
  go_upto_region 8 with (first | ((with_reducible refine gate_dst (N := 2) rfl ?_); refine box_event ?hg (N := 2) ?hd (cs := #[.int .i64 a0_0, .slice A0_1 l0_1.length c0_1, .slice A0_2 l0_2.length c0_2]) (t := 24) ?hr ?_; (case hd => rfl); (case hg => rfl); (case hr => first | (go_simp; done) | (go_simp; rfl)); intro gb303 hg w13 hbox hb; have BK303 := aM (hbox); have GW303 := aM ((by rw [hg]; exact (zZ (zH HB.out)) : w.heap.size ≤ gb303)); have GE303 := aM ((by rw [hg]; exact (zZ (zH HB.out)) : w.heap.size ≤ gb303)); replace HB := aM (zT (zH HB.out) hb); clear hb hbox hg; have hcz14_0 : w13.cell? ⟨gb303, 0, none⟩ = some (.int .i64 a0_0) := yc BK303.out 0; have hcz14_1 : w13.cell? ⟨gb303, 1, none⟩ = some (.slice A0_1 l0_1.length c0_1) := yc BK303.out 1; have hcz14_2 : w13.cell? ⟨gb303, 2, none⟩ = some (.slice A0_2 l0_2.length c0_2) := yc BK303.out 2; have hfz14_0 := yZ BK303.out 0; have hfz14_1 := yZ BK303.out 1; have hfz14_2 := yZ BK303.out 2) | ((with_reducible refine gate_callee (f := 8) rfl ?_); refine goesL_ (some 21) rfl rfl Try.func8 (by kernel_rfl) rfl #[.agg #[.int .i64 a0_0, .slice A0_1 l0_1.length c0_1, .slice A0_2 l0_2.length c0_2], .int .i64 1048576] rfl (by (try simp only [List.map_toArray, List.map_cons, List.map_nil]); first | done | rfl | (simp only [List.length_drop, List.length_take]; rfl)) ?_; (with_reducible refine (laws_szBuddy.calls a0_0 _ _ l0_1 _ _ l0_2 1048576 t304 _ ?side1 ?side2 ?side3 ?side4 A3.out).mono ?_); (case side1 => exact cK HR0_1.out HB.out); (case side2 => exact HC0_1.out); (case side3 => exact cK HR0_2.out HB.out); (case side4 => exact HC0_2.out); rintro e w15 ⟨rfl, hb⟩; refine ⟨_, rfl, ?_⟩; replace BK303 := yK BK303.out hb; replace HB := aM (zT (zH HB.out) hb); (try clear hb); have hcz16_0 : w15.cell? ⟨gb303, 0, none⟩ = some (.int .i64 a0_0) := yc BK303.out 0; have hcz16_1 : w15.cell? ⟨gb303, 1, none⟩ = some (.slice A0_1 l0_1.length c0_1) := yc BK303.out 1; have hcz16_2 : w15.cell? ⟨gb303, 2, none⟩ = some (.slice A0_2 l0_2.length c0_2) := yc BK303.out 2; have hfz16_0 := yZ BK303.out 0; have hfz16_1 := yZ BK303.out 1; have hfz16_2 := yZ BK303.out 2) | ((with_reducible refine gate_callee (f := 10) rfl ?_); refine goesL_ (some 26) rfl rfl Try.func10 (by kernel_rfl) rfl #[.agg #[.int .i64 a0_0, .slice A0_1 l0_1.length c0_1, .slice A0_2 l0_2.length c0_2]] rfl (by (try simp only [List.map_toArray, List.map_cons, List.map_nil]); first | done | rfl | (simp only [List.length_drop, List.length_take]; rfl)) ?_; (with_reducible refine (laws_toBuddy.calls k a0_0 _ _ l0_1 _ _ l0_2 t305 t306 t309 _ ?side1 ?side2 ?side3 ?side4 A8.out).mono ?_); (case side1 => exact cK HR0_1.out HB.out); (case side2 => exact HC0_1.out); (case side3 => exact cK HR0_2.out HB.out); (case side4 => exact HC0_2.out); rintro e w17 ⟨v307, v310, rfl, ho0, ho1, hb⟩; refine ⟨_, rfl, ?_⟩; have HO308 := aM (xL ho0 (zZ (zH HB.out))); have HO311 := aM (xL ho1 (zZ (zH HB.out))); replace BK303 := yK BK303.out hb; replace HB := aM (zT (zH HB.out) hb); (try clear hb); (try clear ho0); (try clear ho1); obtain ⟨Ao18, co18, eo18⟩ := Kd.R_slice HO308.out; subst eo18; obtain ⟨Ao19, co19, eo19⟩ := Kd.R_slice HO311.out; subst eo19) | ((with_reducible refine gate_callee (f := 15) rfl ?_); refine goesL_ (some 28) rfl rfl Try.func15 (by kernel_rfl) rfl #[.agg #[.int .i64 t305, .slice Ao18 t306.length co18, .slice Ao19 t309.length co19], .int .i64 a1] rfl (by (try simp only [List.map_toArray, List.map_cons, List.map_nil]); first | done | rfl | (simp only [List.length_drop, List.length_take]; rfl)) ?_; (with_reducible refine (spec_TakeBlock.calls k t305 _ _ t306 _ _ t309 a1 t312 t313 t316 t319 t320 _ ?side1 ?side2 ?side3 ?side4 A9.out).mono ?_); (case side1 => repeat (first | exact (Kd.R_reads' HO308.out).2.2 | (with_reducible refine cA ?_ _) | (with_reducible refine cN ?_ _) | (with_reducible refine cD ?_))); (case side2 => exact (Kd.R_reads' HO308.out).2.1); (case side3 => repeat (first | exact (Kd.R_reads' HO311.out).2.2 | (with_reducible refine cA ?_ _) | (with_reducible refine cN ?_ _) | (with_reducible refine cD ?_))); (case side4 => exact (Kd.R_reads' HO311.out).2.1); rintro e w20 ⟨v314, v317, rfl, ho0, ho1, hb⟩; refine ⟨_, rfl, ?_⟩; have HO315 := aM (xL (Kd.R_new' (Kd.R_new' ho0 (Kd.R_lt (xH HO308.out))) (Kd.R_lt (xH HO311.out))) (zZ (zH HB.out))); have HO318 := aM (xL (Kd.R_new' (Kd.R_new' ho1 (Kd.R_lt (xH HO308.out))) (Kd.R_lt (xH HO311.out))) (zZ (zH HB.out))); replace HO308 := aM (xM (Kd.R_told (Kd.R_told (Kd.R_old (xH HO308.out) hb) (Kd.R_base ho0)) (Kd.R_base ho1)) (fun _ h_ => h_.1)); replace HO311 := aM (xM (Kd.R_told (Kd.R_told (Kd.R_old (xH HO311.out) hb) (Kd.R_base ho0)) (Kd.R_base ho1)) (fun _ h_ => h_.1)); replace BK303 := yK BK303.out hb; replace HB := aM (zT (zH HB.out) hb); (try clear hb); (try clear ho0); (try clear ho1)) | ((with_reducible refine gate_dst (N := 6) rfl ?_); refine box_event ?hg (N := 6) ?hd (cs := #[.int .i64 0, .slice none 0 0, .slice none 0 0]) (t := 28) ?hr ?_; (case hd => rfl); (case hg => rfl); (case hr => first | (go_simp; done) | (go_simp; rfl)); intro gb321 hg w21 hbox hb; replace HO308 := xK HO308.out hb; replace HO311 := xK HO311.out hb; replace HO315 := xK HO315.out hb; replace HO318 := xK HO318.out hb; have BK321 := aM (hbox); have GW321 := aM ((by rw [hg]; exact (zZ (zH HB.out)) : w.heap.size ≤ gb321)); have GE321 := aM ((by rw [hg]; exact (zZ (zH HB.out)) : w.heap.size ≤ gb321)); replace HB := aM (zT (zH HB.out) hb); have NB303_321 := nL BK303.out hg; have NB321_303 := nR BK303.out hg; replace BK303 := yK BK303.out hb; clear hb hbox hg; have hnb22 := NB321_303.out; have hnc22 := NB303_321.out; have hcz23_0 : w21.cell? ⟨gb321, 0, none⟩ = some (.int .i64 0) := yc BK321.out 0; have hcz23_1 : w21.cell? ⟨gb321, 1, none⟩ = some (.slice none 0 0) := yc BK321.out 1; have hcz23_2 : w21.cell? ⟨gb321, 2, none⟩ = some (.slice none 0 0) := yc BK321.out 2; have hfz23_0 := yZ BK321.out 0; have hfz23_1 := yZ BK321.out 1; have hfz23_2 := yZ BK321.out 2; obtain ⟨Ao24, co24, eo24⟩ := Kd.R_slice HO315.out; subst eo24; obtain ⟨Ao25, co25, eo25⟩ := Kd.R_slice HO318.out; subst eo25; have hcz26_0 : w21.cell? ⟨gb303, 0, none⟩ = some (.int .i64 a0_0) := yc BK303.out 0; have hcz26_1 : w21.cell? ⟨gb303, 1, none⟩ = some (.slice A0_1 l0_1.length c0_1) := yc BK303.out 1; have hcz26_2 : w21.cell? ⟨gb303, 2, none⟩ = some (.slice A0_2 l0_2.length c0_2) := yc BK303.out 2; have hfz26_0 := yZ BK303.out 0; have hfz26_1 := yZ BK303.out 1; have hfz26_2 := yZ BK303.out 2) | ((with_reducible refine gate_callee (f := 10) rfl ?_); refine goesL_ (some 33) rfl rfl Try.func10 (by kernel_rfl) rfl #[.agg #[.int .i64 a0_0, .slice A0_1 l0_1.length c0_1, .slice A0_2 l0_2.length c0_2]] rfl (by (try simp only [List.map_toArray, List.map_cons, List.map_nil]); first | done | rfl | (simp only [List.length_drop, List.length_take]; rfl)) ?_; (with_reducible refine (laws_toBuddy.calls k a0_0 _ _ l0_1 _ _ l0_2 t322 t323 t326 _ ?side1 ?side2 ?side3 ?side4 A10.out).mono ?_); (case side1 => exact cB HR0_1.out (zH HB.out)); (case side2 => exact HC0_1.out); (case side3 => exact cB HR0_2.out (zH HB.out)); (case side4 => exact HC0_2.out); rintro e w27 ⟨v324, v327, rfl, ho0, ho1, hb⟩; refine ⟨_, rfl, ?_⟩; have HO325 := aM (xL (Kd.R_new' (Kd.R_new' (Kd.R_new' (Kd.R_new' ho0 (Kd.R_lt (xH ((x3 HO308.out BK321.out (by decide) (.int .i64 t312) (.slice Ao24 t313.length co24) (.slice Ao25 t316.length co25)))))) (Kd.R_lt (xH ((x3 HO311.out BK321.out (by decide) (.int .i64 t312) (.slice Ao24 t313.length co24) (.slice Ao25 t316.length co25)))))) (Kd.R_lt (xH ((x3 HO315.out BK321.out (by decide) (.int .i64 t312) (.slice Ao24 t313.length co24) (.slice Ao25 t316.length co25)))))) (Kd.R_lt (xH ((x3 HO318.out BK321.out (by decide) (.int .i64 t312) (.slice Ao24 t313.length co24) (.slice Ao25 t316.length co25)))))) (zZ (zH HB.out))); have HO328 := aM (xL (Kd.R_new' (Kd.R_new' (Kd.R_new' (Kd.R_new' ho1 (Kd.R_lt (xH ((x3 HO308.out BK321.out (by decide) (.int .i64 t312) (.slice Ao24 t313.length co24) (.slice Ao25 t316.length co25)))))) (Kd.R_lt (xH ((x3 HO311.out BK321.out (by decide) (.int .i64 t312) (.slice Ao24 t313.length co24) (.slice Ao25 t316.length co25)))))) (Kd.R_lt (xH ((x3 HO315.out BK321.out (by decide) (.int .i64 t312) (.slice Ao24 t313.length co24) (.slice Ao25 t316.length co25)))))) (Kd.R_lt (xH ((x3 HO318.out BK321.out (by decide) (.int .i64 t312) (.slice Ao24 t313.length co24) (.slice Ao25 t316.length co25)))))) (zZ (zH HB.out))); replace HO308 := aM (xM (Kd.R_told (Kd.R_told (Kd.R_old (xH ((x3 HO308.out BK321.out (by decide) (.int .i64 t312) (.slice Ao24 t313.length co24) (.slice Ao25 t316.length co25)))) hb) (Kd.R_base ho0)) (Kd.R_base ho1)) (fun _ h_ => h_.1)); replace HO311 := aM (xM (Kd.R_told (Kd.R_told (Kd.R_old (xH ((x3 HO311.out BK321.out (by decide) (.int .i64 t312) (.slice Ao24 t313.length co24) (.slice Ao25 t316.length co25)))) hb) (Kd.R_base ho0)) (Kd.R_base ho1)) (fun _ h_ => h_.1)); replace HO315 := aM (xM (Kd.R_told (Kd.R_told (Kd.R_old (xH ((x3 HO315.out BK321.out (by decide) (.int .i64 t312) (.slice Ao24 t313.length co24) (.slice Ao25 t316.length co25)))) hb) (Kd.R_base ho0)) (Kd.R_base ho1)) (fun _ h_ => h_.1)); replace HO318 := aM (xM (Kd.R_told (Kd.R_told (Kd.R_old (xH ((x3 HO318.out BK321.out (by decide) (.int .i64 t312) (.slice Ao24 t313.length co24) (.slice Ao25 t316.length co25)))) hb) (Kd.R_base ho0)) (Kd.R_base ho1)) (fun _ h_ => h_.1)); replace BK303 := aM (yB (g := gb303) (o := .cells #[.int .i64 a0_0, .slice A0_1 l0_1.length c0_1, .slice A0_2 l0_2.length c0_2] 24 (0, 0)) (by (with_reducible repeat (first | refine yN ?_ _ | refine yD ?_ | refine yA ?_ _)); refine yF ?_ NB303_321.out _; (with_reducible repeat (first | refine yN ?_ _ | refine yD ?_ | refine yA ?_ _)); refine yF ?_ NB303_321.out _; (with_reducible repeat (first | refine yN ?_ _ | refine yD ?_ | refine yA ?_ _)); refine yF ?_ NB303_321.out _; (with_reducible repeat (first | refine yN ?_ _ | refine yD ?_ | refine yA ?_ _)); exact BK303.out) hb); replace BK321 := aM (yB (g := gb321) (o := .cells #[.int .i64 t312, .slice Ao24 t313.length co24, .slice Ao25 t316.length co25] 28 (0, 0)) (by (with_reducible repeat (first | refine yN ?_ _ | refine yD ?_ | refine yA ?_ _)); refine yP (cs := #[.int .i64 t312, .slice Ao24 t313.length co24, .slice none 0 0]) ?_ 2 _ rfl; (with_reducible repeat (first | refine yN ?_ _ | refine yD ?_ | refine yA ?_ _)); refine yP (cs := #[.int .i64 t312, .slice none 0 0, .slice none 0 0]) ?_ 1 _ rfl; (with_reducible repeat (first | refine yN ?_ _ | refine yD ?_ | refine yA ?_ _)); refine yP (cs := #[.int .i64 0, .slice none 0 0, .slice none 0 0]) ?_ 0 _ rfl; (with_reducible repeat (first | refine yN ?_ _ | refine yD ?_ | refine yA ?_ _)); exact BK321.out) hb); replace HB := aM (zT (zH HB.out) hb); (try clear hb); (try clear ho0); (try clear ho1)) | ((with_reducible refine gate_dst (N := 9) rfl ?_); refine box_event ?hg (N := 9) ?hd (cs := #[.int .i64 0, .slice none 0 0, .slice none 0 0]) (t := 28) ?hr ?_; (case hd => rfl); (case hg => rfl); (case hr => first | (go_simp; done) | (go_simp; rfl)); intro gb329 hg w28 hbox hb; replace HO308 := xK HO308.out hb; replace HO311 := xK HO311.out hb; replace HO315 := xK HO315.out hb; replace HO318 := xK HO318.out hb; replace HO325 := xK HO325.out hb; replace HO328 := xK HO328.out hb; have BK329 := aM (hbox); have GW329 := aM ((by rw [hg]; exact (zZ (zH HB.out)) : w.heap.size ≤ gb329)); have GE329 := aM ((by rw [hg]; exact (zZ (zH HB.out)) : w.heap.size ≤ gb329)); replace HB := aM (zT (zH HB.out) hb); have NB303_329 := nL BK303.out hg; have NB329_303 := nR BK303.out hg; replace BK303 := yK BK303.out hb; have NB321_329 := nL BK321.out hg; have NB329_321 := nR BK321.out hg; replace BK321 := yK BK321.out hb; clear hb hbox hg; have hnb29 := NB329_303.out; have hnc29 := NB303_329.out; have hnb30 := NB329_321.out; have hnc30 := NB321_329.out; have hcz31_0 : w28.cell? ⟨gb329, 0, none⟩ = some (.int .i64 0) := yc BK329.out 0; have hcz31_1 : w28.cell? ⟨gb329, 1, none⟩ = some (.slice none 0 0) := yc BK329.out 1; have hcz31_2 : w28.cell? ⟨gb329, 2, none⟩ = some (.slice none 0 0) := yc BK329.out 2; have hfz31_0 := yZ BK329.out 0; have hfz31_1 := yZ BK329.out 1; have hfz31_2 := yZ BK329.out 2; obtain ⟨Ao32, co32, eo32⟩ := Kd.R_slice HO325.out; subst eo32; obtain ⟨Ao33, co33, eo33⟩ := Kd.R_slice HO328.out; subst eo33) | ((with_reducible refine gate_callee (f := 16) rfl ?_); refine goesL_ (some 37) rfl rfl Try.func16 (by kernel_rfl) rfl #[.agg #[.int .i64 t322, .slice Ao32 t323.length co32, .slice Ao33 t326.length co33], .int .i64 a1] rfl (by (try simp only [List.map_toArray, List.map_cons, List.map_nil]); first | done | rfl | (simp only [List.length_drop, List.length_take]; rfl)) ?_; (with_reducible refine (impl_TakeBlock.calls k t322 _ _ t323 _ _ t326 a1 t330 t331 t334 t337 t338 _ ?side1 ?side2 ?side3 ?side4 A11.out).mono ?_); (case side1 => exact rC (n := t323.length) (c := co32) ((x3 HO325.out BK329.out (by decide) (.int .i64 t322) (.slice Ao32 t323.length co32) (.slice Ao33 t326.length co33)))); (case side2 => exact (Kd.R_reads' HO325.out).2.1); (case side3 => exact rC (n := t326.length) (c := co33) ((x3 HO328.out BK329.out (by decide) (.int .i64 t322) (.slice Ao32 t323.length co32) (.slice Ao33 t326.length co33)))); (case side4 => exact (Kd.R_reads' HO328.out).2.1); rintro e w34 ⟨v332, v335, rfl, ho0, ho1, hb⟩; refine ⟨_, rfl, ?_⟩; have HO333 := aM (xL (Kd.R_new' (Kd.R_new' (Kd.R_new' (Kd.R_new' (Kd.R_new' (Kd.R_new' ho0 (Kd.R_lt (xH ((x3 HO308.out BK329.out (by decide) (.int .i64 t322) (.slice Ao32 t323.length co32) (.slice Ao33 t326.length co33)))))) (Kd.R_lt (xH ((x3 HO311.out BK329.out (by decide) (.int .i64 t322) (.slice Ao32 t323.length co32) (.slice Ao33 t326.length co33)))))) (Kd.R_lt (xH ((x3 HO315.out BK329.out (by decide) (.int .i64 t322) (.slice Ao32 t323.length co32) (.slice Ao33 t326.length co33)))))) (Kd.R_lt (xH ((x3 HO318.out BK329.out (by decide) (.int .i64 t322) (.slice Ao32 t323.length co32) (.slice Ao33 t326.length co33)))))) (Kd.R_lt (xH ((x3 HO325.out BK329.out (by decide) (.int .i64 t322) (.slice Ao32 t323.length co32) (.slice Ao33 t326.length co33)))))) (Kd.R_lt (xH ((x3 HO328.out BK329.out (by decide) (.int .i64 t322) (.slice Ao32 t323.length co32) (.slice Ao33 t326.length co33)))))) (zZ (zH HB.out))); have HO336 := aM (xL (Kd.R_new' (Kd.R_new' (Kd.R_new' (Kd.R_new' (Kd.R_new' (Kd.R_new' ho1 (Kd.R_lt (xH ((x3 HO308.out BK329.out (by decide) (.int .i64 t322) (.slice Ao32 t323.length co32) (.slice Ao33 t326.length co33)))))) (Kd.R_lt (xH ((x3 HO311.out BK329.out (by decide) (.int .i64 t322) (.slice Ao32 t323.length co32) (.slice Ao33 t326.length co33)))))) (Kd.R_lt (xH ((x3 HO315.out BK329.out (by decide) (.int .i64 t322) (.slice Ao32 t323.length co32) (.slice Ao33 t326.length co33)))))) (Kd.R_lt (xH ((x3 HO318.out BK329.out (by decide) (.int .i64 t322) (.slice Ao32 t323.length co32) (.slice Ao33 t326.length co33)))))) (Kd.R_lt (xH ((x3 HO325.out BK329.out (by decide) (.int .i64 t322) (.slice Ao32 t323.length co32) (.slice Ao33 t326.length co33)))))) (Kd.R_lt (xH ((x3 HO328.out BK329.out (by decide) (.int .i64 t322) (.slice Ao32 t323.length co32) (.slice Ao33 t326.length co33)))))) (zZ (zH HB.out))); replace HO308 := aM (xM (Kd.R_told (Kd.R_told (Kd.R_old (xH ((x3 HO308.out BK329.out (by decide) (.int .i64 t322) (.slice Ao32 t323.length co32) (.slice Ao33 t326.length co33)))) hb) (Kd.R_base ho0)) (Kd.R_base ho1)) (fun _ h_ => h_.1)); replace HO311 := aM (xM (Kd.R_told (Kd.R_told (Kd.R_old (xH ((x3 HO311.out BK329.out (by decide) (.int .i64 t322) (.slice Ao32 t323.length co32) (.slice Ao33 t326.length co33)))) hb) (Kd.R_base ho0)) (Kd.R_base ho1)) (fun _ h_ => h_.1)); replace HO315 := aM (xM (Kd.R_told (Kd.R_told (Kd.R_old (xH ((x3 HO315.out BK329.out (by decide) (.int .i64 t322) (.slice Ao32 t323.length co32) (.slice Ao33 t326.length co33)))) hb) (Kd.R_base ho0)) (Kd.R_base ho1)) (fun _ h_ => h_.1)); replace HO318 := aM (xM (Kd.R_told (Kd.R_told (Kd.R_old (xH ((x3 HO318.out BK329.out (by decide) (.int .i64 t322) (.slice Ao32 t323.length co32) (.slice Ao33 t326.length co33)))) hb) (Kd.R_base ho0)) (Kd.R_base ho1)) (fun _ h_ => h_.1)); replace HO325 := aM (xM (Kd.R_told (Kd.R_told (Kd.R_old (xH ((x3 HO325.out BK329.out (by decide) (.int .i64 t322) (.slice Ao32 t323.length co32) (.slice Ao33 t326.length co33)))) hb) (Kd.R_base ho0)) (Kd.R_base ho1)) (fun _ h_ => h_.1)); replace HO328 := aM (xM (Kd.R_told (Kd.R_told (Kd.R_old (xH ((x3 HO328.out BK329.out (by decide) (.int .i64 t322) (.slice Ao32 t323.length co32) (.slice Ao33 t326.length co33)))) hb) (Kd.R_base ho0)) (Kd.R_base ho1)) (fun _ h_ => h_.1)); replace BK303 := aM (yB (g := gb303) (o := .cells #[.int .i64 a0_0, .slice A0_1 l0_1.length c0_1, .slice A0_2 l0_2.length c0_2] 24 (0, 0)) (by (with_reducible repeat (first | refine yN ?_ _ | refine yD ?_ | refine yA ?_ _)); refine yF ?_ NB303_329.out _; (with_reducible repeat (first | refine yN ?_ _ | refine yD ?_ | refine yA ?_ _)); refine yF ?_ NB303_329.out _; (with_reducible repeat (first | refine yN ?_ _ | refine yD ?_ | refine yA ?_ _)); refine yF ?_ NB303_329.out _; (with_reducible repeat (first | refine yN ?_ _ | refine yD ?_ | refine yA ?_ _)); exact BK303.out) hb); replace BK321 := aM (yB (g := gb321) (o := .cells #[.int .i64 t312, .slice Ao24 t313.length co24, .slice Ao25 t316.length co25] 28 (0, 0)) (by (with_reducible repeat (first | refine yN ?_ _ | refine yD ?_ | refine yA ?_ _)); refine yF ?_ NB321_329.out _; (with_reducible repeat (first | refine yN ?_ _ | refine yD ?_ | refine yA ?_ _)); refine yF ?_ NB321_329.out _; (with_reducible repeat (first | refine yN ?_ _ | refine yD ?_ | refine yA ?_ _)); refine yF ?_ NB321_329.out _; (with_reducible repeat (first | refine yN ?_ _ | refine yD ?_ | refine yA ?_ _)); exact BK321.out) hb); replace BK329 := aM (yB (g := gb329) (o := .cells #[.int .i64 t322, .slice Ao32 t323.length co32, .slice Ao33 t326.length co33] 28 (0, 0)) (by (with_reducible repeat (first | refine yN ?_ _ | refine yD ?_ | refine yA ?_ _)); refine yP (cs := #[.int .i64 t322, .slice Ao32 t323.length co32, .slice none 0 0]) ?_ 2 _ rfl; (with_reducible repeat (first | refine yN ?_ _ | refine yD ?_ | refine yA ?_ _)); refine yP (cs := #[.int .i64 t322, .slice none 0 0, .slice none 0 0]) ?_ 1 _ rfl; (with_reducible repeat (first | refine yN ?_ _ | refine yD ?_ | refine yA ?_ _)); refine yP (cs := #[.int .i64 0, .slice none 0 0, .slice none 0 0]) ?_ 0 _ rfl; (with_reducible repeat (first | refine yN ?_ _ | refine yD ?_ | refine yA ?_ _)); exact BK329.out) hb); replace HB := aM (zT (zH HB.out) hb); (try clear hb); (try clear ho0); (try clear ho1)) | ((with_reducible refine gate_dst (N := 10) rfl ?_); refine box_event ?hg (N := 10) ?hd (cs := #[.int .i64 0, .slice none 0 0, .slice none 0 0]) (t := 28) ?hr ?_; (case hd => rfl); (case hg => rfl); (case hr => first | (go_simp; done) | (go_simp; rfl)); intro gb339 hg w35 hbox hb; replace HO308 := xK HO308.out hb; replace HO311 := xK HO311.out hb; replace HO315 := xK HO315.out hb; replace HO318 := xK HO318.out hb; replace HO325 := xK HO325.out hb; replace HO328 := xK HO328.out hb; replace HO333 := xK HO333.out hb; replace HO336 := xK HO336.out hb; have BK339 := aM (hbox); have GW339 := aM ((by rw [hg]; exact (zZ (zH HB.out)) : w.heap.size ≤ gb339)); have GE339 := aM ((by rw [hg]; exact (zZ (zH HB.out)) : w.heap.size ≤ gb339)); replace HB := aM (zT (zH HB.out) hb); have NB303_339 := nL BK303.out hg; have NB339_303 := nR BK303.out hg; replace BK303 := yK BK303.out hb; have NB321_339 := nL BK321.out hg; have NB339_321 := nR BK321.out hg; replace BK321 := yK BK321.out hb; have NB329_339 := nL BK329.out hg; have NB339_329 := nR BK329.out hg; replace BK329 := yK BK329.out hb; clear hb hbox hg; have hnb36 := NB339_303.out; have hnc36 := NB303_339.out; have hnb37 := NB339_321.out; have hnc37 := NB321_339.out; have hnb38 := NB339_329.out; have hnc38 := NB329_339.out; have hcz39_0 : w35.cell? ⟨gb339, 0, none⟩ = some (.int .i64 0) := yc BK339.out 0; have hcz39_1 : w35.cell? ⟨gb339, 1, none⟩ = some (.slice none 0 0) := yc BK339.out 1; have hcz39_2 : w35.cell? ⟨gb339, 2, none⟩ = some (.slice none 0 0) := yc BK339.out 2; have hfz39_0 := yZ BK339.out 0; have hfz39_1 := yZ BK339.out 1; have hfz39_2 := yZ BK339.out 2; obtain ⟨Ao40, co40, eo40⟩ := Kd.R_slice HO333.out; subst eo40; obtain ⟨Ao41, co41, eo41⟩ := Kd.R_slice HO336.out; subst eo41))
  (try simp only [Act.put, qA, qB, qC])
  go_cut [54] (fun v54 wc => ∃ (kq : Nat) (x54_11 : Bool), v54 = .bool x54_11 ∧ Aside0 (laws_FnExactTakeBlock.j0 kq a1 t319 t320 t337 t338 x54_11 a0_0 l0_1 l0_2 t312 t313 t316 t322 t323 t326 t330 t331 t334 = some r) ∧ Aside0 (kq ≤ k) ∧ Aside0 (Kd.R k45 45 wc w.heap.size (fun k_ => some k_ ≠ oB Ao25 t316.length co25 ∧ some k_ ≠ oB Ao32 t323.length co32 ∧ some k_ ≠ oB Ao33 t326.length co33 ∧ some k_ ≠ oB Ao40 t331.length co40 ∧ some k_ ≠ oB Ao41 t334.length co41) (.slice Ao24 t313.length co24) t313) ∧ Aside0 (Kd.R k45 45 wc w.heap.size (fun k_ => some k_ ≠ oB Ao24 t313.length co24 ∧ some k_ ≠ oB Ao32 t323.length co32 ∧ some k_ ≠ oB Ao33 t326.length co33 ∧ some k_ ≠ oB Ao40 t331.length co40 ∧ some k_ ≠ oB Ao41 t334.length co41) (.slice Ao25 t316.length co25) t316) ∧ Aside0 (Kd.R k45 45 wc w.heap.size (fun k_ => some k_ ≠ oB Ao24 t313.length co24 ∧ some k_ ≠ oB Ao25 t316.length co25 ∧ some k_ ≠ oB Ao33 t326.length co33 ∧ some k_ ≠ oB Ao40 t331.length co40 ∧ some k_ ≠ oB Ao41 t334.length co41) (.slice Ao32 t323.length co32) t323) ∧ Aside0 (Kd.R k45 45 wc w.heap.size (fun k_ => some k_ ≠ oB Ao24 t313.length co24 ∧ some k_ ≠ oB Ao25 t316.length co25 ∧ some k_ ≠ oB Ao32 t323.length co32 ∧ some k_ ≠ oB Ao40 t331.length co40 ∧ some k_ ≠ oB Ao41 t334.length co41) (.slice Ao33 t326.length co33) t326) ∧ Aside0 (Kd.R k45 45 wc w.heap.size (fun k_ => some k_ ≠ oB Ao24 t313.length co24 ∧ some k_ ≠ oB Ao25 t316.length co25 ∧ some k_ ≠ oB Ao32 t323.length co32 ∧ some k_ ≠ oB Ao33 t326.length co33 ∧ some k_ ≠ oB Ao41 t334.length co41) (.slice Ao40 t331.length co40) t331) ∧ Aside0 (Kd.R k45 45 wc w.heap.size (fun k_ => some k_ ≠ oB Ao24 t313.length co24 ∧ some k_ ≠ oB Ao25 t316.length co25 ∧ some k_ ≠ oB Ao32 t323.length co32 ∧ some k_ ≠ oB Ao33 t326.length co33 ∧ some k_ ≠ oB Ao40 t331.length co40) (.slice Ao41 t334.length co41) t334) ∧ Aside0 (wc.heap[gb303]? = some (.cells #[.int .i64 a0_0, (.slice A0_1 l0_1.length c0_1), (.slice A0_2 l0_2.length c0_2)] 24 (0, 0))) ∧ Aside0 (wc.heap[gb321]? = some (.cells #[.int .i64 t312, (.slice Ao24 t313.length co24), (.slice Ao25 t316.length co25)] 28 (0, 0))) ∧ Aside0 (wc.heap[gb329]? = some (.cells #[.int .i64 t322, (.slice Ao32 t323.length co32), (.slice Ao33 t326.length co33)] 28 (0, 0))) ∧ Aside0 (wc.heap[gb339]? = some (.cells #[.int .i64 t330, (.slice Ao40 t331.length co40), (.slice Ao41 t334.length co41)] 28 (0, 0))) ∧ Aside0 (Below w.heap.size w wc))
  case first =>
   have H := HC12.out
   clear HC12
   replace H := Option.bind_eq_some_iff.mp H
   obtain ⟨t340, A420, H⟩ := H
   replace H : (if t340 = true then (if t337 = t319 then (laws_FnExactTakeBlock.j0 k a1 t319 t320 t337 t338 (t338 != t320) a0_0 l0_1 l0_2 t312 t313 t316 t322 t323 t326 t330 t331 t334) else (laws_FnExactTakeBlock.j0 k a1 t319 t320 t337 t338 true a0_0 l0_1 l0_2 t312 t313 t316 t322 t323 t326 t330 t331 t334)) else (laws_FnExactTakeBlock.j0 k a1 t319 t320 t337 t338 true a0_0 l0_1 l0_2 t312 t313 t316 t322 t323 t326 t330 t331 t334)) = some r := H
   have A42 := aM A420
   clear A420
   by_cases c43 : t340 = true
   ·subst c43
    have H1 : (if t337 = t319 then (laws_FnExactTakeBlock.j0 k a1 t319 t320 t337 t338 (t338 != t320) a0_0 l0_1 l0_2 t312 t313 t316 t322 t323 t326 t330 t331 t334) else (laws_FnExactTakeBlock.j0 k a1 t319 t320 t337 t338 true a0_0 l0_1 l0_2 t312 t313 t316 t322 t323 t326 t330 t331 t334)) = some r := by rw [if_pos rfl] at H; exact H
    clear H
    have H := H1
    clear H1
    by_cases c44 : t337 = t319
    ·rw [if_pos c44] at H
     have c44b0 : (t337 == t319) = true := beq_iff_eq.mpr c44
     have c44b1 : (t337 != t319) = false := bne_eq_false_iff_eq.mpr c44
     clear c44
     (first | rw [c44b0] | (simp only [i64_w, i32_w]; rw [c44b0]) | skip)
     have H' := aM H
     clear H
     have hnb45 := NB339_303.out
     have hnc45 := NB303_339.out
     have hnb46 := NB339_321.out
     have hnc46 := NB321_339.out
     have hnb47 := NB339_329.out
     have hnc47 := NB329_339.out
     have hcz48_0 : w35.cell? ⟨gb339, 0, none⟩ = some (.int .i64 0) := yc BK339.out 0
     have hcz48_1 : w35.cell? ⟨gb339, 1, none⟩ = some (.slice none 0 0) := yc BK339.out 1
     have hcz48_2 : w35.cell? ⟨gb339, 2, none⟩ = some (.slice none 0 0) := yc BK339.out 2
     have hfz48_0 := yZ BK339.out 0
     have hfz48_1 := yZ BK339.out 1
     have hfz48_2 := yZ BK339.out 2
     have hnb49 := NB321_303.out
     have hnc49 := NB303_321.out
     have hnb50 := NB321_329.out
     have hnc50 := NB329_321.out
     have hcz51_0 : w35.cell? ⟨gb321, 0, none⟩ = some (.int .i64 t312) := yc BK321.out 0
     have hcz51_1 : w35.cell? ⟨gb321, 1, none⟩ = some (.slice Ao24 t313.length co24) := yc BK321.out 1
     have hcz51_2 : w35.cell? ⟨gb321, 2, none⟩ = some (.slice Ao25 t316.length co25) := yc BK321.out 2
     have hfz51_0 := yZ BK321.out 0
     have hfz51_1 := yZ BK321.out 1
     have hfz51_2 := yZ BK321.out 2
     go_wp2_with (first | ((with_reducible refine gate_callee (f := 12) rfl ?_); refine goesL_ (some 43) rfl rfl Try.func12 (by kernel_rfl) rfl #[.agg #[.int .i64 t330, .slice Ao40 t331.length co40, .slice Ao41 t334.length co41], .agg #[.int .i64 t312, .slice Ao24 t313.length co24, .slice Ao25 t316.length co25]] rfl (by (try simp only [List.map_toArray, List.map_cons, List.map_nil]); first | done | rfl | (simp only [List.length_drop, List.length_take]; rfl)) ?_; (with_reducible refine (laws_eqBuddy.calls k t330 _ _ t331 _ _ t334 t312 _ _ t313 _ _ t316 true _ ?side1 ?side2 ?side3 ?side4 ?side5 ?side6 ?side7 ?side8 A42.out).mono ?_); (case side1 => exact rC (n := t331.length) (c := co40) ((x3 HO333.out BK339.out (by decide) (.int .i64 t330) (.slice Ao40 t331.length co40) (.slice Ao41 t334.length co41)))); (case side2 => exact (Kd.R_reads' HO333.out).2.1); (case side3 => exact rC (n := t334.length) (c := co41) ((x3 HO336.out BK339.out (by decide) (.int .i64 t330) (.slice Ao40 t331.length co40) (.slice Ao41 t334.length co41)))); (case side4 => exact (Kd.R_reads' HO336.out).2.1); (case side5 => exact rC (n := t313.length) (c := co24) ((x3 HO315.out BK339.out (by decide) (.int .i64 t330) (.slice Ao40 t331.length co40) (.slice Ao41 t334.length co41)))); (case side6 => exact (Kd.R_reads' HO315.out).2.1); (case side7 => exact rC (n := t316.length) (c := co25) ((x3 HO318.out BK339.out (by decide) (.int .i64 t330) (.slice Ao40 t331.length co40) (.slice Ao41 t334.length co41)))); (case side8 => exact (Kd.R_reads' HO318.out).2.1); rintro e w52 ⟨rfl, hb⟩; refine ⟨_, rfl, ?_⟩; replace HO308 := aM (xB (xH ((x3 HO308.out BK339.out (by decide) (.int .i64 t330) (.slice Ao40 t331.length co40) (.slice Ao41 t334.length co41)))) hb); replace HO311 := aM (xB (xH ((x3 HO311.out BK339.out (by decide) (.int .i64 t330) (.slice Ao40 t331.length co40) (.slice Ao41 t334.length co41)))) hb); replace HO315 := aM (xB (xH ((x3 HO315.out BK339.out (by decide) (.int .i64 t330) (.slice Ao40 t331.length co40) (.slice Ao41 t334.length co41)))) hb); replace HO318 := aM (xB (xH ((x3 HO318.out BK339.out (by decide) (.int .i64 t330) (.slice Ao40 t331.length co40) (.slice Ao41 t334.length co41)))) hb); replace HO325 := aM (xB (xH ((x3 HO325.out BK339.out (by decide) (.int .i64 t330) (.slice Ao40 t331.length co40) (.slice Ao41 t334.length co41)))) hb); replace HO328 := aM (xB (xH ((x3 HO328.out BK339.out (by decide) (.int .i64 t330) (.slice Ao40 t331.length co40) (.slice Ao41 t334.length co41)))) hb); replace HO333 := aM (xB (xH ((x3 HO333.out BK339.out (by decide) (.int .i64 t330) (.slice Ao40 t331.length co40) (.slice Ao41 t334.length co41)))) hb); replace HO336 := aM (xB (xH ((x3 HO336.out BK339.out (by decide) (.int .i64 t330) (.slice Ao40 t331.length co40) (.slice Ao41 t334.length co41)))) hb); replace BK303 := aM (yB (g := gb303) (o := .cells #[.int .i64 a0_0, .slice A0_1 l0_1.length c0_1, .slice A0_2 l0_2.length c0_2] 24 (0, 0)) (by (with_reducible repeat (first | refine yN ?_ _ | refine yD ?_ | refine yA ?_ _)); refine yF ?_ NB303_339.out _; (with_reducible repeat (first | refine yN ?_ _ | refine yD ?_ | refine yA ?_ _)); refine yF ?_ NB303_339.out _; (with_reducible repeat (first | refine yN ?_ _ | refine yD ?_ | refine yA ?_ _)); refine yF ?_ NB303_339.out _; (with_reducible repeat (first | refine yN ?_ _ | refine yD ?_ | refine yA ?_ _)); exact BK303.out) hb); replace BK321 := aM (yB (g := gb321) (o := .cells #[.int .i64 t312, .slice Ao24 t313.length co24, .slice Ao25 t316.length co25] 28 (0, 0)) (by (with_reducible repeat (first | refine yN ?_ _ | refine yD ?_ | refine yA ?_ _)); refine yF ?_ NB321_339.out _; (with_reducible repeat (first | refine yN ?_ _ | refine yD ?_ | refine yA ?_ _)); refine yF ?_ NB321_339.out _; (with_reducible repeat (first | refine yN ?_ _ | refine yD ?_ | refine yA ?_ _)); refine yF ?_ NB321_339.out _; (with_reducible repeat (first | refine yN ?_ _ | refine yD ?_ | refine yA ?_ _)); exact BK321.out) hb); replace BK329 := aM (yB (g := gb329) (o := .cells #[.int .i64 t322, .slice Ao32 t323.length co32, .slice Ao33 t326.length co33] 28 (0, 0)) (by (with_reducible repeat (first | refine yN ?_ _ | refine yD ?_ | refine yA ?_ _)); refine yF ?_ NB329_339.out _; (with_reducible repeat (first | refine yN ?_ _ | refine yD ?_ | refine yA ?_ _)); refine yF ?_ NB329_339.out _; (with_reducible repeat (first | refine yN ?_ _ | refine yD ?_ | refine yA ?_ _)); refine yF ?_ NB329_339.out _; (with_reducible repeat (first | refine yN ?_ _ | refine yD ?_ | refine yA ?_ _)); exact BK329.out) hb); replace BK339 := aM (yB (g := gb339) (o := .cells #[.int .i64 t330, .slice Ao40 t331.length co40, .slice Ao41 t334.length co41] 28 (0, 0)) (by (with_reducible repeat (first | refine yN ?_ _ | refine yD ?_ | refine yA ?_ _)); refine yP (cs := #[.int .i64 t330, .slice Ao40 t331.length co40, .slice none 0 0]) ?_ 2 _ rfl; (with_reducible repeat (first | refine yN ?_ _ | refine yD ?_ | refine yA ?_ _)); refine yP (cs := #[.int .i64 t330, .slice none 0 0, .slice none 0 0]) ?_ 1 _ rfl; (with_reducible repeat (first | refine yN ?_ _ | refine yD ?_ | refine yA ?_ _)); refine yP (cs := #[.int .i64 0, .slice none 0 0, .slice none 0 0]) ?_ 0 _ rfl; (with_reducible repeat (first | refine yN ?_ _ | refine yD ?_ | refine yA ?_ _)); exact BK339.out) hb); replace HB := aM (zT (zH HB.out) hb); (try clear hb)))
     go_meet
     case rel => exact ⟨_, ((t338 != t320)), (by first | rfl | (simp; done) | (simp [*]; done)), H', ⟨by first | omega | exact Nat.le_refl _⟩, ⟨xH (xM HO315.out (fun _ hk => ⟨hk.1.1.1.1.1.1, ⟨hk.1.1.1.2, ⟨hk.1.1.2, ⟨hk.1.2, hk.2⟩⟩⟩⟩))⟩, ⟨xH (xM HO318.out (fun _ hk => ⟨hk.1.1.1.1.1.1, ⟨hk.1.1.1.2, ⟨hk.1.1.2, ⟨hk.1.2, hk.2⟩⟩⟩⟩))⟩, ⟨xH (xM HO325.out (fun _ hk => ⟨hk.1.1.1.2, ⟨hk.1.1.2, ⟨hk.1.1.1.1.1.1, ⟨hk.1.2, hk.2⟩⟩⟩⟩))⟩, ⟨xH (xM HO328.out (fun _ hk => ⟨hk.1.1.1.2, ⟨hk.1.1.2, ⟨hk.1.1.1.1.1.1, ⟨hk.1.2, hk.2⟩⟩⟩⟩))⟩, ⟨xH (xM HO333.out (fun _ hk => ⟨hk.1.1.1.2, ⟨hk.1.1.2, ⟨hk.1.2, ⟨hk.2, hk.1.1.1.1.1.1⟩⟩⟩⟩))⟩, ⟨xH (xM HO336.out (fun _ hk => ⟨hk.1.1.1.2, ⟨hk.1.1.2, ⟨hk.1.2, ⟨hk.2, hk.1.1.1.1.1.1⟩⟩⟩⟩))⟩, ⟨yH BK303.out⟩, ⟨yH BK321.out⟩, ⟨yH BK329.out⟩, ⟨yH BK339.out⟩, ⟨zH HB.out⟩⟩
    ·rw [if_neg c44] at H
     have c44b0 : (t337 == t319) = false := beq_eq_false_iff_ne.mpr c44
     have c44b1 : (t337 != t319) = true := bne_iff_ne.mpr c44
     (first | rw [c44b0] | (simp only [i64_w, i32_w]; rw [c44b0]) | skip)
     have H' := aM H
     clear H
     have hnb53 := NB339_303.out
     have hnc53 := NB303_339.out
     have hnb54 := NB339_321.out
     have hnc54 := NB321_339.out
     have hnb55 := NB339_329.out
     have hnc55 := NB329_339.out
     have hcz56_0 : w35.cell? ⟨gb339, 0, none⟩ = some (.int .i64 0) := yc BK339.out 0
     have hcz56_1 : w35.cell? ⟨gb339, 1, none⟩ = some (.slice none 0 0) := yc BK339.out 1
     have hcz56_2 : w35.cell? ⟨gb339, 2, none⟩ = some (.slice none 0 0) := yc BK339.out 2
     have hfz56_0 := yZ BK339.out 0
     have hfz56_1 := yZ BK339.out 1
     have hfz56_2 := yZ BK339.out 2
     have hnb57 := NB321_303.out
     have hnc57 := NB303_321.out
     have hnb58 := NB321_329.out
     have hnc58 := NB329_321.out
     have hcz59_0 : w35.cell? ⟨gb321, 0, none⟩ = some (.int .i64 t312) := yc BK321.out 0
     have hcz59_1 : w35.cell? ⟨gb321, 1, none⟩ = some (.slice Ao24 t313.length co24) := yc BK321.out 1
     have hcz59_2 : w35.cell? ⟨gb321, 2, none⟩ = some (.slice Ao25 t316.length co25) := yc BK321.out 2
     have hfz59_0 := yZ BK321.out 0
     have hfz59_1 := yZ BK321.out 1
     have hfz59_2 := yZ BK321.out 2
     go_wp2_with (first | ((with_reducible refine gate_callee (f := 12) rfl ?_); refine goesL_ (some 43) rfl rfl Try.func12 (by kernel_rfl) rfl #[.agg #[.int .i64 t330, .slice Ao40 t331.length co40, .slice Ao41 t334.length co41], .agg #[.int .i64 t312, .slice Ao24 t313.length co24, .slice Ao25 t316.length co25]] rfl (by (try simp only [List.map_toArray, List.map_cons, List.map_nil]); first | done | rfl | (simp only [List.length_drop, List.length_take]; rfl)) ?_; (with_reducible refine (laws_eqBuddy.calls k t330 _ _ t331 _ _ t334 t312 _ _ t313 _ _ t316 true _ ?side1 ?side2 ?side3 ?side4 ?side5 ?side6 ?side7 ?side8 A42.out).mono ?_); (case side1 => exact rC (n := t331.length) (c := co40) ((x3 HO333.out BK339.out (by decide) (.int .i64 t330) (.slice Ao40 t331.length co40) (.slice Ao41 t334.length co41)))); (case side2 => exact (Kd.R_reads' HO333.out).2.1); (case side3 => exact rC (n := t334.length) (c := co41) ((x3 HO336.out BK339.out (by decide) (.int .i64 t330) (.slice Ao40 t331.length co40) (.slice Ao41 t334.length co41)))); (case side4 => exact (Kd.R_reads' HO336.out).2.1); (case side5 => exact rC (n := t313.length) (c := co24) ((x3 HO315.out BK339.out (by decide) (.int .i64 t330) (.slice Ao40 t331.length co40) (.slice Ao41 t334.length co41)))); (case side6 => exact (Kd.R_reads' HO315.out).2.1); (case side7 => exact rC (n := t316.length) (c := co25) ((x3 HO318.out BK339.out (by decide) (.int .i64 t330) (.slice Ao40 t331.length co40) (.slice Ao41 t334.length co41)))); (case side8 => exact (Kd.R_reads' HO318.out).2.1); rintro e w60 ⟨rfl, hb⟩; refine ⟨_, rfl, ?_⟩; replace HO308 := aM (xB (xH ((x3 HO308.out BK339.out (by decide) (.int .i64 t330) (.slice Ao40 t331.length co40) (.slice Ao41 t334.length co41)))) hb); replace HO311 := aM (xB (xH ((x3 HO311.out BK339.out (by decide) (.int .i64 t330) (.slice Ao40 t331.length co40) (.slice Ao41 t334.length co41)))) hb); replace HO315 := aM (xB (xH ((x3 HO315.out BK339.out (by decide) (.int .i64 t330) (.slice Ao40 t331.length co40) (.slice Ao41 t334.length co41)))) hb); replace HO318 := aM (xB (xH ((x3 HO318.out BK339.out (by decide) (.int .i64 t330) (.slice Ao40 t331.length co40) (.slice Ao41 t334.length co41)))) hb); replace HO325 := aM (xB (xH ((x3 HO325.out BK339.out (by decide) (.int .i64 t330) (.slice Ao40 t331.length co40) (.slice Ao41 t334.length co41)))) hb); replace HO328 := aM (xB (xH ((x3 HO328.out BK339.out (by decide) (.int .i64 t330) (.slice Ao40 t331.length co40) (.slice Ao41 t334.length co41)))) hb); replace HO333 := aM (xB (xH ((x3 HO333.out BK339.out (by decide) (.int .i64 t330) (.slice Ao40 t331.length co40) (.slice Ao41 t334.length co41)))) hb); replace HO336 := aM (xB (xH ((x3 HO336.out BK339.out (by decide) (.int .i64 t330) (.slice Ao40 t331.length co40) (.slice Ao41 t334.length co41)))) hb); replace BK303 := aM (yB (g := gb303) (o := .cells #[.int .i64 a0_0, .slice A0_1 l0_1.length c0_1, .slice A0_2 l0_2.length c0_2] 24 (0, 0)) (by (with_reducible repeat (first | refine yN ?_ _ | refine yD ?_ | refine yA ?_ _)); refine yF ?_ NB303_339.out _; (with_reducible repeat (first | refine yN ?_ _ | refine yD ?_ | refine yA ?_ _)); refine yF ?_ NB303_339.out _; (with_reducible repeat (first | refine yN ?_ _ | refine yD ?_ | refine yA ?_ _)); refine yF ?_ NB303_339.out _; (with_reducible repeat (first | refine yN ?_ _ | refine yD ?_ | refine yA ?_ _)); exact BK303.out) hb); replace BK321 := aM (yB (g := gb321) (o := .cells #[.int .i64 t312, .slice Ao24 t313.length co24, .slice Ao25 t316.length co25] 28 (0, 0)) (by (with_reducible repeat (first | refine yN ?_ _ | refine yD ?_ | refine yA ?_ _)); refine yF ?_ NB321_339.out _; (with_reducible repeat (first | refine yN ?_ _ | refine yD ?_ | refine yA ?_ _)); refine yF ?_ NB321_339.out _; (with_reducible repeat (first | refine yN ?_ _ | refine yD ?_ | refine yA ?_ _)); refine yF ?_ NB321_339.out _; (with_reducible repeat (first | refine yN ?_ _ | refine yD ?_ | refine yA ?_ _)); exact BK321.out) hb); replace BK329 := aM (yB (g := gb329) (o := .cells #[.int .i64 t322, .slice Ao32 t323.length co32, .slice Ao33 t326.length co33] 28 (0, 0)) (by (with_reducible repeat (first | refine yN ?_ _ | refine yD ?_ | refine yA ?_ _)); refine yF ?_ NB329_339.out _; (with_reducible repeat (first | refine yN ?_ _ | refine yD ?_ | refine yA ?_ _)); refine yF ?_ NB329_339.out _; (with_reducible repeat (first | refine yN ?_ _ | refine yD ?_ | refine yA ?_ _)); refine yF ?_ NB329_339.out _; (with_reducible repeat (first | refine yN ?_ _ | refine yD ?_ | refine yA ?_ _)); exact BK329.out) hb); replace BK339 := aM (yB (g := gb339) (o := .cells #[.int .i64 t330, .slice Ao40 t331.length co40, .slice Ao41 t334.length co41] 28 (0, 0)) (by (with_reducible repeat (first | refine yN ?_ _ | refine yD ?_ | refine yA ?_ _)); refine yP (cs := #[.int .i64 t330, .slice Ao40 t331.length co40, .slice none 0 0]) ?_ 2 _ rfl; (with_reducible repeat (first | refine yN ?_ _ | refine yD ?_ | refine yA ?_ _)); refine yP (cs := #[.int .i64 t330, .slice none 0 0, .slice none 0 0]) ?_ 1 _ rfl; (with_reducible repeat (first | refine yN ?_ _ | refine yD ?_ | refine yA ?_ _)); refine yP (cs := #[.int .i64 0, .slice none 0 0, .slice none 0 0]) ?_ 0 _ rfl; (with_reducible repeat (first | refine yN ?_ _ | refine yD ?_ | refine yA ?_ _)); exact BK339.out) hb); replace HB := aM (zT (zH HB.out) hb); (try clear hb)))
     go_meet
     case rel => exact ⟨_, (true), (by first | rfl | (simp; done) | (simp [*]; done)), H', ⟨by first | omega | exact Nat.le_refl _⟩, ⟨xH (xM HO315.out (fun _ hk => ⟨hk.1.1.1.1.1.1, ⟨hk.1.1.1.2, ⟨hk.1.1.2, ⟨hk.1.2, hk.2⟩⟩⟩⟩))⟩, ⟨xH (xM HO318.out (fun _ hk => ⟨hk.1.1.1.1.1.1, ⟨hk.1.1.1.2, ⟨hk.1.1.2, ⟨hk.1.2, hk.2⟩⟩⟩⟩))⟩, ⟨xH (xM HO325.out (fun _ hk => ⟨hk.1.1.1.2, ⟨hk.1.1.2, ⟨hk.1.1.1.1.1.1, ⟨hk.1.2, hk.2⟩⟩⟩⟩))⟩, ⟨xH (xM HO328.out (fun _ hk => ⟨hk.1.1.1.2, ⟨hk.1.1.2, ⟨hk.1.1.1.1.1.1, ⟨hk.1.2, hk.2⟩⟩⟩⟩))⟩, ⟨xH (xM HO333.out (fun _ hk => ⟨hk.1.1.1.2, ⟨hk.1.1.2, ⟨hk.1.2, ⟨hk.2, hk.1.1.1.1.1.1⟩⟩⟩⟩))⟩, ⟨xH (xM HO336.out (fun _ hk => ⟨hk.1.1.1.2, ⟨hk.1.1.2, ⟨hk.1.2, ⟨hk.2, hk.1.1.1.1.1.1⟩⟩⟩⟩))⟩, ⟨yH BK303.out⟩, ⟨yH BK321.out⟩, ⟨yH BK329.out⟩, ⟨yH BK339.out⟩, ⟨zH HB.out⟩⟩
   ·replace c43 := Bool.eq_false_iff.mpr c43
    subst c43
    have H1 : (laws_FnExactTakeBlock.j0 k a1 t319 t320 t337 t338 true a0_0 l0_1 l0_2 t312 t313 t316 t322 t323 t326 t330 t331 t334) = some r := by rw [if_neg (show ¬ (false = true) by decide)] at H; exact H
    clear H
    have H := H1
    clear H1
    have H' := aM H
    clear H
    have hnb61 := NB339_303.out
    have hnc61 := NB303_339.out
    have hnb62 := NB339_321.out
    have hnc62 := NB321_339.out
    have hnb63 := NB339_329.out
    have hnc63 := NB329_339.out
    have hcz64_0 : w35.cell? ⟨gb339, 0, none⟩ = some (.int .i64 0) := yc BK339.out 0
    have hcz64_1 : w35.cell? ⟨gb339, 1, none⟩ = some (.slice none 0 0) := yc BK339.out 1
    have hcz64_2 : w35.cell? ⟨gb339, 2, none⟩ = some (.slice none 0 0) := yc BK339.out 2
    have hfz64_0 := yZ BK339.out 0
    have hfz64_1 := yZ BK339.out 1
    have hfz64_2 := yZ BK339.out 2
    have hnb65 := NB321_303.out
    have hnc65 := NB303_321.out
    have hnb66 := NB321_329.out
    have hnc66 := NB329_321.out
    have hcz67_0 : w35.cell? ⟨gb321, 0, none⟩ = some (.int .i64 t312) := yc BK321.out 0
    have hcz67_1 : w35.cell? ⟨gb321, 1, none⟩ = some (.slice Ao24 t313.length co24) := yc BK321.out 1
    have hcz67_2 : w35.cell? ⟨gb321, 2, none⟩ = some (.slice Ao25 t316.length co25) := yc BK321.out 2
    have hfz67_0 := yZ BK321.out 0
    have hfz67_1 := yZ BK321.out 1
    have hfz67_2 := yZ BK321.out 2
    go_wp2_with (first | ((with_reducible refine gate_callee (f := 12) rfl ?_); refine goesL_ (some 43) rfl rfl Try.func12 (by kernel_rfl) rfl #[.agg #[.int .i64 t330, .slice Ao40 t331.length co40, .slice Ao41 t334.length co41], .agg #[.int .i64 t312, .slice Ao24 t313.length co24, .slice Ao25 t316.length co25]] rfl (by (try simp only [List.map_toArray, List.map_cons, List.map_nil]); first | done | rfl | (simp only [List.length_drop, List.length_take]; rfl)) ?_; (with_reducible refine (laws_eqBuddy.calls k t330 _ _ t331 _ _ t334 t312 _ _ t313 _ _ t316 false _ ?side1 ?side2 ?side3 ?side4 ?side5 ?side6 ?side7 ?side8 A42.out).mono ?_); (case side1 => exact rC (n := t331.length) (c := co40) ((x3 HO333.out BK339.out (by decide) (.int .i64 t330) (.slice Ao40 t331.length co40) (.slice Ao41 t334.length co41)))); (case side2 => exact (Kd.R_reads' HO333.out).2.1); (case side3 => exact rC (n := t334.length) (c := co41) ((x3 HO336.out BK339.out (by decide) (.int .i64 t330) (.slice Ao40 t331.length co40) (.slice Ao41 t334.length co41)))); (case side4 => exact (Kd.R_reads' HO336.out).2.1); (case side5 => exact rC (n := t313.length) (c := co24) ((x3 HO315.out BK339.out (by decide) (.int .i64 t330) (.slice Ao40 t331.length co40) (.slice Ao41 t334.length co41)))); (case side6 => exact (Kd.R_reads' HO315.out).2.1); (case side7 => exact rC (n := t316.length) (c := co25) ((x3 HO318.out BK339.out (by decide) (.int .i64 t330) (.slice Ao40 t331.length co40) (.slice Ao41 t334.length co41)))); (case side8 => exact (Kd.R_reads' HO318.out).2.1); rintro e w68 ⟨rfl, hb⟩; refine ⟨_, rfl, ?_⟩; replace HO308 := aM (xB (xH ((x3 HO308.out BK339.out (by decide) (.int .i64 t330) (.slice Ao40 t331.length co40) (.slice Ao41 t334.length co41)))) hb); replace HO311 := aM (xB (xH ((x3 HO311.out BK339.out (by decide) (.int .i64 t330) (.slice Ao40 t331.length co40) (.slice Ao41 t334.length co41)))) hb); replace HO315 := aM (xB (xH ((x3 HO315.out BK339.out (by decide) (.int .i64 t330) (.slice Ao40 t331.length co40) (.slice Ao41 t334.length co41)))) hb); replace HO318 := aM (xB (xH ((x3 HO318.out BK339.out (by decide) (.int .i64 t330) (.slice Ao40 t331.length co40) (.slice Ao41 t334.length co41)))) hb); replace HO325 := aM (xB (xH ((x3 HO325.out BK339.out (by decide) (.int .i64 t330) (.slice Ao40 t331.length co40) (.slice Ao41 t334.length co41)))) hb); replace HO328 := aM (xB (xH ((x3 HO328.out BK339.out (by decide) (.int .i64 t330) (.slice Ao40 t331.length co40) (.slice Ao41 t334.length co41)))) hb); replace HO333 := aM (xB (xH ((x3 HO333.out BK339.out (by decide) (.int .i64 t330) (.slice Ao40 t331.length co40) (.slice Ao41 t334.length co41)))) hb); replace HO336 := aM (xB (xH ((x3 HO336.out BK339.out (by decide) (.int .i64 t330) (.slice Ao40 t331.length co40) (.slice Ao41 t334.length co41)))) hb); replace BK303 := aM (yB (g := gb303) (o := .cells #[.int .i64 a0_0, .slice A0_1 l0_1.length c0_1, .slice A0_2 l0_2.length c0_2] 24 (0, 0)) (by (with_reducible repeat (first | refine yN ?_ _ | refine yD ?_ | refine yA ?_ _)); refine yF ?_ NB303_339.out _; (with_reducible repeat (first | refine yN ?_ _ | refine yD ?_ | refine yA ?_ _)); refine yF ?_ NB303_339.out _; (with_reducible repeat (first | refine yN ?_ _ | refine yD ?_ | refine yA ?_ _)); refine yF ?_ NB303_339.out _; (with_reducible repeat (first | refine yN ?_ _ | refine yD ?_ | refine yA ?_ _)); exact BK303.out) hb); replace BK321 := aM (yB (g := gb321) (o := .cells #[.int .i64 t312, .slice Ao24 t313.length co24, .slice Ao25 t316.length co25] 28 (0, 0)) (by (with_reducible repeat (first | refine yN ?_ _ | refine yD ?_ | refine yA ?_ _)); refine yF ?_ NB321_339.out _; (with_reducible repeat (first | refine yN ?_ _ | refine yD ?_ | refine yA ?_ _)); refine yF ?_ NB321_339.out _; (with_reducible repeat (first | refine yN ?_ _ | refine yD ?_ | refine yA ?_ _)); refine yF ?_ NB321_339.out _; (with_reducible repeat (first | refine yN ?_ _ | refine yD ?_ | refine yA ?_ _)); exact BK321.out) hb); replace BK329 := aM (yB (g := gb329) (o := .cells #[.int .i64 t322, .slice Ao32 t323.length co32, .slice Ao33 t326.length co33] 28 (0, 0)) (by (with_reducible repeat (first | refine yN ?_ _ | refine yD ?_ | refine yA ?_ _)); refine yF ?_ NB329_339.out _; (with_reducible repeat (first | refine yN ?_ _ | refine yD ?_ | refine yA ?_ _)); refine yF ?_ NB329_339.out _; (with_reducible repeat (first | refine yN ?_ _ | refine yD ?_ | refine yA ?_ _)); refine yF ?_ NB329_339.out _; (with_reducible repeat (first | refine yN ?_ _ | refine yD ?_ | refine yA ?_ _)); exact BK329.out) hb); replace BK339 := aM (yB (g := gb339) (o := .cells #[.int .i64 t330, .slice Ao40 t331.length co40, .slice Ao41 t334.length co41] 28 (0, 0)) (by (with_reducible repeat (first | refine yN ?_ _ | refine yD ?_ | refine yA ?_ _)); refine yP (cs := #[.int .i64 t330, .slice Ao40 t331.length co40, .slice none 0 0]) ?_ 2 _ rfl; (with_reducible repeat (first | refine yN ?_ _ | refine yD ?_ | refine yA ?_ _)); refine yP (cs := #[.int .i64 t330, .slice none 0 0, .slice none 0 0]) ?_ 1 _ rfl; (with_reducible repeat (first | refine yN ?_ _ | refine yD ?_ | refine yA ?_ _)); refine yP (cs := #[.int .i64 0, .slice none 0 0, .slice none 0 0]) ?_ 0 _ rfl; (with_reducible repeat (first | refine yN ?_ _ | refine yD ?_ | refine yA ?_ _)); exact BK339.out) hb); replace HB := aM (zT (zH HB.out) hb); (try clear hb)))
    go_meet
    case rel => exact ⟨_, (true), (by first | rfl | (simp; done) | (simp [*]; done)), H', ⟨by first | omega | exact Nat.le_refl _⟩, ⟨xH (xM HO315.out (fun _ hk => ⟨hk.1.1.1.1.1.1, ⟨hk.1.1.1.2, ⟨hk.1.1.2, ⟨hk.1.2, hk.2⟩⟩⟩⟩))⟩, ⟨xH (xM HO318.out (fun _ hk => ⟨hk.1.1.1.1.1.1, ⟨hk.1.1.1.2, ⟨hk.1.1.2, ⟨hk.1.2, hk.2⟩⟩⟩⟩))⟩, ⟨xH (xM HO325.out (fun _ hk => ⟨hk.1.1.1.2, ⟨hk.1.1.2, ⟨hk.1.1.1.1.1.1, ⟨hk.1.2, hk.2⟩⟩⟩⟩))⟩, ⟨xH (xM HO328.out (fun _ hk => ⟨hk.1.1.1.2, ⟨hk.1.1.2, ⟨hk.1.1.1.1.1.1, ⟨hk.1.2, hk.2⟩⟩⟩⟩))⟩, ⟨xH (xM HO333.out (fun _ hk => ⟨hk.1.1.1.2, ⟨hk.1.1.2, ⟨hk.1.2, ⟨hk.2, hk.1.1.1.1.1.1⟩⟩⟩⟩))⟩, ⟨xH (xM HO336.out (fun _ hk => ⟨hk.1.1.1.2, ⟨hk.1.1.2, ⟨hk.1.2, ⟨hk.2, hk.1.1.1.1.1.1⟩⟩⟩⟩))⟩, ⟨yH BK303.out⟩, ⟨yH BK321.out⟩, ⟨yH BK329.out⟩, ⟨yH BK339.out⟩, ⟨zH HB.out⟩⟩
  case rest =>
   clear HC12
   (try clear c1); (try clear c2); (try clear p2); (try clear c3); (try clear c4); (try clear c4b0); (try clear c5); (try clear c6); (try clear c8); (try clear c10); (try clear c12); (try clear c15); (try clear c16); (try clear c22); (try clear c29); (try clear c30); (try clear c36); (try clear c37); (try clear c38); (try clear c43); (try clear c44); (try clear c44b0); (try clear c44b1); (try clear c45); (try clear c46); (try clear c47); (try clear c49); (try clear c50); (try clear c53); (try clear c54); (try clear c55); (try clear c57); (try clear c58); (try clear c61); (try clear c62); (try clear c63); (try clear c65); (try clear c66); (try clear hcz14_0); (try clear hcz14_1); (try clear hcz14_2); (try clear hcz16_0); (try clear hcz16_1); (try clear hcz16_2); (try clear hcz23_0); (try clear hcz23_1); (try clear hcz23_2); (try clear hcz26_0); (try clear hcz26_1); (try clear hcz26_2); (try clear hcz31_0); (try clear hcz31_1); (try clear hcz31_2); (try clear hcz39_0); (try clear hcz39_1); (try clear hcz39_2); (try clear hcz48_0); (try clear hcz48_1); (try clear hcz48_2); (try clear hcz51_0); (try clear hcz51_1); (try clear hcz51_2); (try clear hcz56_0); (try clear hcz56_1); (try clear hcz56_2); (try clear hcz59_0); (try clear hcz59_1); (try clear hcz59_2); (try clear hcz64_0); (try clear hcz64_1); (try clear hcz64_2); (try clear hcz67_0); (try clear hcz67_1); (try clear hcz67_2); (try clear hcz6_0); (try clear hcz6_1); (try clear hcz6_2); (try clear hfz14_0); (try clear hfz14_1); (try clear hfz14_2); (try clear hfz16_0); (try clear hfz16_1); (try clear hfz16_2); (try clear hfz23_0); (try clear hfz23_1); (try clear hfz23_2); (try clear hfz26_0); (try clear hfz26_1); (try clear hfz26_2); (try clear hfz31_0); (try clear hfz31_1); (try clear hfz31_2); (try clear hfz39_0); (try clear hfz39_1); (try clear hfz39_2); (try clear hfz48_0); (try clear hfz48_1); (try clear hfz48_2); (try clear hfz51_0); (try clear hfz51_1); (try clear hfz51_2); (try clear hfz56_0); (try clear hfz56_1); (try clear hfz56_2); (try clear hfz59_0); (try clear hfz59_1); (try clear hfz59_2); (try clear hfz64_0); (try clear hfz64_1); (try clear hfz64_2); (try clear hfz67_0); (try clear hfz67_1); (try clear hfz67_2); (try clear hfz6_0); (try clear hfz6_1); (try clear hfz6_2)
   obtain ⟨kq, x54_11, rfl, HA, HJ11, p0', p1', p2', p3', p4', p5', BK303, BK321, BK329, BK339, HB⟩ := hcut
   cases kq with
   | zero => exact absurd HA.out (fun h_ => by change none = some _ at h_; cases h_)
   | succ kj11 =>
    have H := HA.out
    clear HA
    simp only [laws_FnExactTakeBlock.j0] at H
    by_cases c69 : x54_11 = true
    ·subst c69
     have H1 : (some false) = some r := by rw [if_pos rfl] at H; exact H
     clear H
     have H := H1
     clear H1
     exact absurd (H.trans (congrArg some HR_.out)) (by decide)
    ·replace c69 := Bool.eq_false_iff.mpr c69
     subst c69
     have H1 : ((laws_toBuddy.f kj11 a0_0 l0_1 l0_2).bind fun bt341 => ((laws_eqBuddy.f kj11 t322 t323 t326 bt341.1 bt341.2.1 bt341.2.2).bind fun t348 => (if t348 = true then ((laws_markBuddy.f kj11 t322 t323 t326 1).bind fun bt349 => (if bt349.1 < 0 then (laws_FnExactTakeBlock.j1 kj11 a1 t319 t320 true a0_0 l0_1 l0_2 t312 t313 t316 t330 t331 t334) else ((laws_eqBuddy.f kj11 t330 t331 t334 t312 t313 t316).bind fun t352 => (if t352 = true then (if t337 = t319 then (laws_FnExactTakeBlock.j1 kj11 a1 t319 t320 (t338 != t320) a0_0 l0_1 l0_2 t312 t313 t316 t330 t331 t334) else (laws_FnExactTakeBlock.j1 kj11 a1 t319 t320 true a0_0 l0_1 l0_2 t312 t313 t316 t330 t331 t334)) else (laws_FnExactTakeBlock.j1 kj11 a1 t319 t320 true a0_0 l0_1 l0_2 t312 t313 t316 t330 t331 t334))))) else (some false)))) = some r := by rw [if_neg (show ¬ (false = true) by decide)] at H; exact H
     clear H
     have H := H1
     clear H1
     replace H := Option.bind_eq_some_iff.mp H
     obtain ⟨⟨t341, t342, t345⟩, A700, H⟩ := H
     replace H : ((laws_eqBuddy.f kj11 t322 t323 t326 t341 t342 t345).bind fun t348 => (if t348 = true then ((laws_markBuddy.f kj11 t322 t323 t326 1).bind fun bt349 => (if bt349.1 < 0 then (laws_FnExactTakeBlock.j1 kj11 a1 t319 t320 true a0_0 l0_1 l0_2 t312 t313 t316 t330 t331 t334) else ((laws_eqBuddy.f kj11 t330 t331 t334 t312 t313 t316).bind fun t352 => (if t352 = true then (if t337 = t319 then (laws_FnExactTakeBlock.j1 kj11 a1 t319 t320 (t338 != t320) a0_0 l0_1 l0_2 t312 t313 t316 t330 t331 t334) else (laws_FnExactTakeBlock.j1 kj11 a1 t319 t320 true a0_0 l0_1 l0_2 t312 t313 t316 t330 t331 t334)) else (laws_FnExactTakeBlock.j1 kj11 a1 t319 t320 true a0_0 l0_1 l0_2 t312 t313 t316 t330 t331 t334))))) else (some false))) = some r := H
     have A70 := aM A700
     clear A700
     replace H := Option.bind_eq_some_iff.mp H
     obtain ⟨t348, A710, H⟩ := H
     replace H : (if t348 = true then ((laws_markBuddy.f kj11 t322 t323 t326 1).bind fun bt349 => (if bt349.1 < 0 then (laws_FnExactTakeBlock.j1 kj11 a1 t319 t320 true a0_0 l0_1 l0_2 t312 t313 t316 t330 t331 t334) else ((laws_eqBuddy.f kj11 t330 t331 t334 t312 t313 t316).bind fun t352 => (if t352 = true then (if t337 = t319 then (laws_FnExactTakeBlock.j1 kj11 a1 t319 t320 (t338 != t320) a0_0 l0_1 l0_2 t312 t313 t316 t330 t331 t334) else (laws_FnExactTakeBlock.j1 kj11 a1 t319 t320 true a0_0 l0_1 l0_2 t312 t313 t316 t330 t331 t334)) else (laws_FnExactTakeBlock.j1 kj11 a1 t319 t320 true a0_0 l0_1 l0_2 t312 t313 t316 t330 t331 t334))))) else (some false)) = some r := H
     have A71 := aM A710
     clear A710
     by_cases c72 : t348 = true
     ·subst c72
      have H1 : ((laws_markBuddy.f kj11 t322 t323 t326 1).bind fun bt349 => (if bt349.1 < 0 then (laws_FnExactTakeBlock.j1 kj11 a1 t319 t320 true a0_0 l0_1 l0_2 t312 t313 t316 t330 t331 t334) else ((laws_eqBuddy.f kj11 t330 t331 t334 t312 t313 t316).bind fun t352 => (if t352 = true then (if t337 = t319 then (laws_FnExactTakeBlock.j1 kj11 a1 t319 t320 (t338 != t320) a0_0 l0_1 l0_2 t312 t313 t316 t330 t331 t334) else (laws_FnExactTakeBlock.j1 kj11 a1 t319 t320 true a0_0 l0_1 l0_2 t312 t313 t316 t330 t331 t334)) else (laws_FnExactTakeBlock.j1 kj11 a1 t319 t320 true a0_0 l0_1 l0_2 t312 t313 t316 t330 t331 t334))))) = some r := by rw [if_pos rfl] at H; exact H
      clear H
      have H := H1
      clear H1
      replace H := Option.bind_eq_some_iff.mp H
      obtain ⟨⟨t349, t350, t351⟩, A730, H⟩ := H
      replace H : (if t349 < 0 then (laws_FnExactTakeBlock.j1 kj11 a1 t319 t320 true a0_0 l0_1 l0_2 t312 t313 t316 t330 t331 t334) else ((laws_eqBuddy.f kj11 t330 t331 t334 t312 t313 t316).bind fun t352 => (if t352 = true then (if t337 = t319 then (laws_FnExactTakeBlock.j1 kj11 a1 t319 t320 (t338 != t320) a0_0 l0_1 l0_2 t312 t313 t316 t330 t331 t334) else (laws_FnExactTakeBlock.j1 kj11 a1 t319 t320 true a0_0 l0_1 l0_2 t312 t313 t316 t330 t331 t334)) else (laws_FnExactTakeBlock.j1 kj11 a1 t319 t320 true a0_0 l0_1 l0_2 t312 t313 t316 t330 t331 t334)))) = some r := H
      have A73 := aM A730
      clear A730
      have HC74 := aM H
      clear H
      try go_wp2
      replace p0' := aM (xD p0'.out)
      replace p1' := aM (xD p1'.out)
      replace p2' := aM (xD p2'.out)
      replace p3' := aM (xD p3'.out)
      replace p4' := aM (xD p4'.out)
      replace p5' := aM (xD p5'.out)
      replace BK303 := aM (yD BK303.out)
      replace BK321 := aM (yD BK321.out)
      replace BK329 := aM (yD BK329.out)
      replace BK339 := aM (yD BK339.out)
      replace HB := aM (zD HB.out)
      refine start_ (n := 5) (S := fun w' => w'.cell? ⟨gb329, 0, none⟩ = some (.int .i64 t322) ∧ w'.cell? ⟨gb329, 1, none⟩ = some (.slice Ao32 t323.length co32) ∧ w'.cell? ⟨gb329, 2, none⟩ = some (.slice Ao33 t326.length co33) ∧ w'.cell? ⟨gb303, 0, none⟩ = some (.int .i64 a0_0) ∧ w'.cell? ⟨gb303, 1, none⟩ = some (.slice A0_1 l0_1.length c0_1) ∧ w'.cell? ⟨gb303, 2, none⟩ = some (.slice A0_2 l0_2.length c0_2)) (ds := []) #[fF,fF,fF,fF,fF] (by kernel_rfl) rfl rfl ⟨yc BK329.out 0, yc BK329.out 1, yc BK329.out 2, yc BK303.out 0, yc BK303.out 1, yc BK303.out 2⟩ (fun hHeld => ?_)
      generalize wc.drew = w75 at p0' p1' p2' p3' p4' p5' BK303 BK321 BK329 BK339 HB hHeld ⊢
      refine take_ (i := 0) (N := some 55) (v := ?_) (a' := ?_) #[tT,fF,fF,fF,fF] rfl rfl (by kernel_rfl) (fun _ _ _ h => h) (Or.inl ⟨by rfl, ?_⟩) hHeld ?_ ?_
      rotate_left
      ·rintro w' ⟨s0, s1, s2, s3, s4, s5⟩
       go_simp
       with_reducible rfl
      rotate_left
      ·simp only [Act.put, qA, qB, qC, i64_w, i32_w]
       rfl
      refine take_ (i := 1) (N := some 56) (v := ?_) (a' := ?_) #[tT,tT,fF,fF,fF] rfl rfl (by kernel_rfl) (fun _ _ _ h => h) (Or.inl ⟨by rfl, ?_⟩) hHeld ?_ ?_
      rotate_left
      ·rintro w' ⟨s0, s1, s2, s3, s4, s5⟩
       go_simp
       with_reducible rfl
      rotate_left
      ·simp only [Act.put, qA, qB, qC, i64_w, i32_w]
       rfl
      refine one_ (i := 2) (N := some 57) #[tT,tT,tT,fF,fF] rfl rfl (by kernel_rfl) (by decide) (fun K hK => ?_)
      refine gS Try.func10 (by kernel_rfl) rfl #[.agg #[.int .i64 a0_0, .slice A0_1 l0_1.length c0_1, .slice A0_2 l0_2.length c0_2]] (by rfl) rfl rfl ?_
      with_reducible refine (laws_toBuddy.calls kj11 a0_0 _ _ l0_1 _ _ l0_2 t341 t342 t345 _ ?side1 ?side2 ?side3 ?side4 A70.out).mono ?_
      (case side1 => exact cK HR0_1.out HB.out)
      (case side2 => exact HC0_1.out)
      (case side3 => exact cK HR0_2.out HB.out)
      (case side4 => exact HC0_2.out)
      rintro e w76 ⟨v343, v346, rfl, ho0, ho1, hb⟩
      refine ⟨_, rfl, ?_⟩
      have HO344 := aM (xL (Kd.R_new' (Kd.R_new' (Kd.R_new' (Kd.R_new' (Kd.R_new' (Kd.R_new' ho0 (Kd.R_lt (xH p0'.out))) (Kd.R_lt (xH p1'.out))) (Kd.R_lt (xH p2'.out))) (Kd.R_lt (xH p3'.out))) (Kd.R_lt (xH p4'.out))) (Kd.R_lt (xH p5'.out))) (zZ (zH HB.out)))
      have HO347 := aM (xL (Kd.R_new' (Kd.R_new' (Kd.R_new' (Kd.R_new' (Kd.R_new' (Kd.R_new' ho1 (Kd.R_lt (xH p0'.out))) (Kd.R_lt (xH p1'.out))) (Kd.R_lt (xH p2'.out))) (Kd.R_lt (xH p3'.out))) (Kd.R_lt (xH p4'.out))) (Kd.R_lt (xH p5'.out))) (zZ (zH HB.out)))
      replace p0' := aM (xM (Kd.R_told (Kd.R_told (Kd.R_old (xH p0'.out) hb) (Kd.R_base ho0)) (Kd.R_base ho1)) (fun _ h_ => h_.1))
      replace p1' := aM (xM (Kd.R_told (Kd.R_told (Kd.R_old (xH p1'.out) hb) (Kd.R_base ho0)) (Kd.R_base ho1)) (fun _ h_ => h_.1))
      replace p2' := aM (xM (Kd.R_told (Kd.R_told (Kd.R_old (xH p2'.out) hb) (Kd.R_base ho0)) (Kd.R_base ho1)) (fun _ h_ => h_.1))
      replace p3' := aM (xM (Kd.R_told (Kd.R_told (Kd.R_old (xH p3'.out) hb) (Kd.R_base ho0)) (Kd.R_base ho1)) (fun _ h_ => h_.1))
      replace p4' := aM (xM (Kd.R_told (Kd.R_told (Kd.R_old (xH p4'.out) hb) (Kd.R_base ho0)) (Kd.R_base ho1)) (fun _ h_ => h_.1))
      replace p5' := aM (xM (Kd.R_told (Kd.R_told (Kd.R_old (xH p5'.out) hb) (Kd.R_base ho0)) (Kd.R_base ho1)) (fun _ h_ => h_.1))
      replace BK303 := yK BK303.out hb
      replace BK321 := yK BK321.out hb
      replace BK329 := yK BK329.out hb
      replace BK339 := yK BK339.out hb
      replace HB := aM (zT (zH HB.out) hb)
      (try clear hb); (try clear ho0); (try clear ho1)
      obtain ⟨Ao77, co77, eo77⟩ := Kd.R_slice HO344.out
      (first | subst eo77 | obtain ⟨rfl, rfl⟩ := eI eo77)
      obtain ⟨Ao78, co78, eo78⟩ := Kd.R_slice HO347.out
      (first | subst eo78 | obtain ⟨rfl, rfl⟩ := eI eo78)
      refine hK.out _ _ ⟨yc BK329.out 0, yc BK329.out 1, yc BK329.out 2, yc BK303.out 0, yc BK303.out 1, yc BK303.out 2⟩ (fun hHeld => ?_)
      clear hK K
      refine norm_ (a' := ?_) ?_ ?_
      rotate_left
      ·show Act.put _ (some 57) _ = _
       simp only [Act.put, qA, qB, qC, i64_w, i32_w]
       rfl
      refine one_ (i := 3) (N := some 58) #[tT,tT,tT,tT,fF] rfl rfl (by kernel_rfl) (by decide) (fun K hK => ?_)
      refine gS Try.func12 (by kernel_rfl) rfl #[.agg #[.int .i64 t322, .slice Ao32 t323.length co32, .slice Ao33 t326.length co33], .agg #[.int .i64 t341, .slice Ao77 t342.length co77, .slice Ao78 t345.length co78]] (by rfl) rfl rfl ?_
      with_reducible refine (laws_eqBuddy.calls kj11 t322 _ _ t323 _ _ t326 t341 _ _ t342 _ _ t345 true _ ?side1 ?side2 ?side3 ?side4 ?side5 ?side6 ?side7 ?side8 A71.out).mono ?_
      (case side1 => repeat (first | exact (Kd.R_reads' p2'.out).2.2 | (with_reducible refine cA ?_ _) | (with_reducible refine cN ?_ _) | (with_reducible refine cD ?_)))
      (case side2 => exact (Kd.R_reads' p2'.out).2.1)
      (case side3 => repeat (first | exact (Kd.R_reads' p3'.out).2.2 | (with_reducible refine cA ?_ _) | (with_reducible refine cN ?_ _) | (with_reducible refine cD ?_)))
      (case side4 => exact (Kd.R_reads' p3'.out).2.1)
      (case side5 => repeat (first | exact (Kd.R_reads' HO344.out).2.2 | (with_reducible refine cA ?_ _) | (with_reducible refine cN ?_ _) | (with_reducible refine cD ?_)))
      (case side6 => exact (Kd.R_reads' HO344.out).2.1)
      (case side7 => repeat (first | exact (Kd.R_reads' HO347.out).2.2 | (with_reducible refine cA ?_ _) | (with_reducible refine cN ?_ _) | (with_reducible refine cD ?_)))
      (case side8 => exact (Kd.R_reads' HO347.out).2.1)
      rintro e w79 ⟨rfl, hb⟩
      refine ⟨_, rfl, ?_⟩
      replace p0' := xK p0'.out hb
      replace p1' := xK p1'.out hb
      replace p2' := xK p2'.out hb
      replace p3' := xK p3'.out hb
      replace p4' := xK p4'.out hb
      replace p5' := xK p5'.out hb
      replace HO344 := xK HO344.out hb
      replace HO347 := xK HO347.out hb
      replace BK303 := yK BK303.out hb
      replace BK321 := yK BK321.out hb
      replace BK329 := yK BK329.out hb
      replace BK339 := yK BK339.out hb
      replace HB := aM (zT (zH HB.out) hb)
      (try clear hb)
      refine hK.out _ _ ⟨yc BK329.out 0, yc BK329.out 1, yc BK329.out 2, yc BK303.out 0, yc BK303.out 1, yc BK303.out 2⟩ (fun hHeld => ?_)
      clear hK K
      refine norm_ (a' := ?_) ?_ ?_
      rotate_left
      ·show Act.put _ (some 58) _ = _
       simp only [Act.put, qA, qB, qC, i64_w, i32_w]
       rfl
      refine pure_ (i := 4) (N := some 59) (v := ?_) (a' := ?_) #[tT,tT,tT,tT,tT] rfl rfl (by kernel_rfl) (fun _ _ _ h => h) (Or.inl ⟨by rfl, ?_⟩) ?_ ?_
      rotate_left
      ·intro w'
       go_simp
       with_reducible rfl
      rotate_left
      ·simp only [Act.put, qA, qB, qC, i64_w, i32_w]
       rfl
      refine done_ (by kernel_rfl) ?_
      have hnb80 := NB329_303.out
      have hnc80 := NB303_329.out
      have hnb81 := NB329_321.out
      have hnc81 := NB321_329.out
      have hnb82 := NB329_339.out
      have hnc82 := NB339_329.out
      have hcz83_0 : w79.cell? ⟨gb329, 0, none⟩ = some (.int .i64 t322) := yc BK329.out 0
      have hcz83_1 : w79.cell? ⟨gb329, 1, none⟩ = some (.slice Ao32 t323.length co32) := yc BK329.out 1
      have hcz83_2 : w79.cell? ⟨gb329, 2, none⟩ = some (.slice Ao33 t326.length co33) := yc BK329.out 2
      have hfz83_0 := yZ BK329.out 0
      have hfz83_1 := yZ BK329.out 1
      have hfz83_2 := yZ BK329.out 2
      go_upto_region 14 with (first | ((with_reducible refine gate_callee (f := 13) rfl ?_); refine goesL_ (some 62) rfl rfl Try.func13 (by kernel_rfl) rfl #[.agg #[.int .i64 t322, .slice Ao32 t323.length co32, .slice Ao33 t326.length co33], .int .i64 1] rfl (by (try simp only [List.map_toArray, List.map_cons, List.map_nil]); first | done | rfl | (simp only [List.length_drop, List.length_take]; rfl)) ?_; (with_reducible refine (laws_markBuddy.calls kj11 t322 (fun k_ => some k_ = oB Ao32 t323.length co32) (.slice Ao32 t323.length co32) t323 (fun k_ => some k_ = oB Ao33 t326.length co33) (.slice Ao33 t326.length co33) t326 1 t349 t350 t351 w _ ?side1 ?side2 ?side3 ?side4 ?side5 A73.out).mono ?_); (case side1 => repeat (first | (with_reducible first | exact HB.out | apply zA | apply zN | apply zD | refine zS ?_ GE303.out | refine zS ?_ GE321.out | refine zS ?_ GE329.out | refine zS ?_ GE339.out) | exact HB.out)); (case side2 => exact Kd.R_tight rfl p2'.out); (case side3 => exact fun k_ e_ => (p2'.out.1 k_ e_.symm).1.1.2.2.1); (case side4 => exact Kd.R_tight rfl p3'.out); (case side5 => exact fun k_ e_ => (p3'.out.1 k_ e_.symm).1.1.2.2.1); rintro e w84 ⟨rfl, hy0, hy1, hb, hkp⟩; refine ⟨_, rfl, ?_⟩; replace p0' := aM (xM (ok' := fun k_ => some k_ ≠ oB Ao25 t316.length co25 ∧ some k_ ≠ oB Ao32 t323.length co32 ∧ some k_ ≠ oB Ao33 t326.length co33 ∧ some k_ ≠ oB Ao40 t331.length co40 ∧ some k_ ≠ oB Ao41 t334.length co41 ∧ some k_ ≠ oB Ao77 t342.length co77 ∧ some k_ ≠ oB Ao78 t345.length co78) (Kd.R_keptB (p0'.out) hkp (fun k_ hk_ hs_ => Or.elim hs_ (fun e_ => (hk_.1.1.2.1) e_) (fun e_ => (hk_.1.1.2.2.1) e_))) (fun k_ hk_ => ⟨hk_.1.1.1.1, hk_.1.1.1.2.1, hk_.1.1.1.2.2.1, hk_.1.1.1.2.2.2.1, hk_.1.1.1.2.2.2.2, hk_.1.1.2, hk_.1.2⟩)); replace p1' := aM (xM (ok' := fun k_ => some k_ ≠ oB Ao24 t313.length co24 ∧ some k_ ≠ oB Ao32 t323.length co32 ∧ some k_ ≠ oB Ao33 t326.length co33 ∧ some k_ ≠ oB Ao40 t331.length co40 ∧ some k_ ≠ oB Ao41 t334.length co41 ∧ some k_ ≠ oB Ao77 t342.length co77 ∧ some k_ ≠ oB Ao78 t345.length co78) (Kd.R_keptB (p1'.out) hkp (fun k_ hk_ hs_ => Or.elim hs_ (fun e_ => (hk_.1.1.2.1) e_) (fun e_ => (hk_.1.1.2.2.1) e_))) (fun k_ hk_ => ⟨hk_.1.1.1.1, hk_.1.1.1.2.1, hk_.1.1.1.2.2.1, hk_.1.1.1.2.2.2.1, hk_.1.1.1.2.2.2.2, hk_.1.1.2, hk_.1.2⟩)); replace p4' := aM (xM (ok' := fun k_ => some k_ ≠ oB Ao24 t313.length co24 ∧ some k_ ≠ oB Ao25 t316.length co25 ∧ some k_ ≠ oB Ao32 t323.length co32 ∧ some k_ ≠ oB Ao33 t326.length co33 ∧ some k_ ≠ oB Ao41 t334.length co41 ∧ some k_ ≠ oB Ao77 t342.length co77 ∧ some k_ ≠ oB Ao78 t345.length co78) (Kd.R_keptB (p4'.out) hkp (fun k_ hk_ hs_ => Or.elim hs_ (fun e_ => (hk_.1.1.2.2.1) e_) (fun e_ => (hk_.1.1.2.2.2.1) e_))) (fun k_ hk_ => ⟨hk_.1.1.1.1, hk_.1.1.1.2.1, hk_.1.1.1.2.2.1, hk_.1.1.1.2.2.2.1, hk_.1.1.1.2.2.2.2, hk_.1.1.2, hk_.1.2⟩)); replace p5' := aM (xM (ok' := fun k_ => some k_ ≠ oB Ao24 t313.length co24 ∧ some k_ ≠ oB Ao25 t316.length co25 ∧ some k_ ≠ oB Ao32 t323.length co32 ∧ some k_ ≠ oB Ao33 t326.length co33 ∧ some k_ ≠ oB Ao40 t331.length co40 ∧ some k_ ≠ oB Ao77 t342.length co77 ∧ some k_ ≠ oB Ao78 t345.length co78) (Kd.R_keptB (p5'.out) hkp (fun k_ hk_ hs_ => Or.elim hs_ (fun e_ => (hk_.1.1.2.2.1) e_) (fun e_ => (hk_.1.1.2.2.2.1) e_))) (fun k_ hk_ => ⟨hk_.1.1.1.1, hk_.1.1.1.2.1, hk_.1.1.1.2.2.1, hk_.1.1.1.2.2.2.1, hk_.1.1.1.2.2.2.2, hk_.1.1.2, hk_.1.2⟩)); replace BK303 := aM (blk_kept BK303.out hkp (fun hs_ => Or.elim hs_ (fun e_ => (fun e_ => (Kd.R_ne p2'.out BK303.out (by decide)) e_) e_) (fun e_ => (fun e_ => (Kd.R_ne p3'.out BK303.out (by decide)) e_) e_))); replace BK321 := aM (blk_kept BK321.out hkp (fun hs_ => Or.elim hs_ (fun e_ => (fun e_ => (Kd.R_ne p2'.out BK321.out (by decide)) e_) e_) (fun e_ => (fun e_ => (Kd.R_ne p3'.out BK321.out (by decide)) e_) e_))); replace BK329 := aM (blk_kept BK329.out hkp (fun hs_ => Or.elim hs_ (fun e_ => (fun e_ => (Kd.R_ne p2'.out BK329.out (by decide)) e_) e_) (fun e_ => (fun e_ => (Kd.R_ne p3'.out BK329.out (by decide)) e_) e_))); replace BK339 := aM (blk_kept BK339.out hkp (fun hs_ => Or.elim hs_ (fun e_ => (fun e_ => (Kd.R_ne p2'.out BK339.out (by decide)) e_) e_) (fun e_ => (fun e_ => (Kd.R_ne p3'.out BK339.out (by decide)) e_) e_))); replace p2' := aM (Kd.R_reok rfl hy0 (fun k_ e_ => p2'.out.1 k_ e_)); replace p3' := aM (Kd.R_reok rfl hy1 (fun k_ e_ => p3'.out.1 k_ e_)); replace HO344 := aM (xM (ok' := fun k_ => some k_ ≠ oB Ao24 t313.length co24 ∧ some k_ ≠ oB Ao25 t316.length co25 ∧ some k_ ≠ oB Ao32 t323.length co32 ∧ some k_ ≠ oB Ao33 t326.length co33 ∧ some k_ ≠ oB Ao40 t331.length co40 ∧ some k_ ≠ oB Ao41 t334.length co41 ∧ some k_ ≠ oB Ao78 t345.length co78) (Kd.R_keptB (HO344.out) hkp (fun k_ hk_ hs_ => Or.elim hs_ (fun e_ => (hk_.1.1.1.2) e_) (fun e_ => (hk_.1.1.2) e_))) (fun k_ hk_ => ⟨hk_.1.1.1.1.1.1.2, hk_.1.1.1.1.1.2, hk_.1.1.1.1.2, hk_.1.1.1.2, hk_.1.1.2, hk_.1.2, hk_.1.1.1.1.1.1.1⟩)); replace HO347 := aM (xM (ok' := fun k_ => some k_ ≠ oB Ao24 t313.length co24 ∧ some k_ ≠ oB Ao25 t316.length co25 ∧ some k_ ≠ oB Ao32 t323.length co32 ∧ some k_ ≠ oB Ao33 t326.length co33 ∧ some k_ ≠ oB Ao40 t331.length co40 ∧ some k_ ≠ oB Ao41 t334.length co41 ∧ some k_ ≠ oB Ao77 t342.length co77) (Kd.R_keptB (HO347.out) hkp (fun k_ hk_ hs_ => Or.elim hs_ (fun e_ => (hk_.1.1.1.2) e_) (fun e_ => (hk_.1.1.2) e_))) (fun k_ hk_ => ⟨hk_.1.1.1.1.1.1.2, hk_.1.1.1.1.1.2, hk_.1.1.1.1.2, hk_.1.1.1.2, hk_.1.1.2, hk_.1.2, hk_.1.1.1.1.1.1.1⟩)); replace HB := aM (hb); (try clear hb); (try clear hkp); (try clear hy0); (try clear hy1)))
      (try simp only [Act.put, qA, qB, qC])
      go_cut [80] (fun v80 wc => ∃ (kq : Nat) (x80_73 : Bool), v80 = .bool x80_73 ∧ Aside0 (laws_FnExactTakeBlock.j1 kq a1 t319 t320 x80_73 a0_0 l0_1 l0_2 t312 t313 t316 t330 t331 t334 = some r) ∧ Aside0 (kq ≤ kj11) ∧ Aside0 (Kd.R k45 45 wc w.heap.size (fun k_ => some k_ ≠ oB Ao25 t316.length co25 ∧ some k_ ≠ oB Ao32 t323.length co32 ∧ some k_ ≠ oB Ao33 t326.length co33 ∧ some k_ ≠ oB Ao40 t331.length co40 ∧ some k_ ≠ oB Ao41 t334.length co41) (.slice Ao24 t313.length co24) t313) ∧ Aside0 (Kd.R k45 45 wc w.heap.size (fun k_ => some k_ ≠ oB Ao24 t313.length co24 ∧ some k_ ≠ oB Ao32 t323.length co32 ∧ some k_ ≠ oB Ao33 t326.length co33 ∧ some k_ ≠ oB Ao40 t331.length co40 ∧ some k_ ≠ oB Ao41 t334.length co41) (.slice Ao25 t316.length co25) t316) ∧ Aside0 (Kd.R k45 45 wc w.heap.size (fun k_ => some k_ ≠ oB Ao24 t313.length co24 ∧ some k_ ≠ oB Ao25 t316.length co25 ∧ some k_ ≠ oB Ao33 t326.length co33 ∧ some k_ ≠ oB Ao40 t331.length co40 ∧ some k_ ≠ oB Ao41 t334.length co41) (.slice Ao32 t323.length co32) t350) ∧ Aside0 (Kd.R k45 45 wc w.heap.size (fun k_ => some k_ ≠ oB Ao24 t313.length co24 ∧ some k_ ≠ oB Ao25 t316.length co25 ∧ some k_ ≠ oB Ao32 t323.length co32 ∧ some k_ ≠ oB Ao40 t331.length co40 ∧ some k_ ≠ oB Ao41 t334.length co41) (.slice Ao33 t326.length co33) t351) ∧ Aside0 (Kd.R k45 45 wc w.heap.size (fun k_ => some k_ ≠ oB Ao24 t313.length co24 ∧ some k_ ≠ oB Ao25 t316.length co25 ∧ some k_ ≠ oB Ao32 t323.length co32 ∧ some k_ ≠ oB Ao33 t326.length co33 ∧ some k_ ≠ oB Ao41 t334.length co41) (.slice Ao40 t331.length co40) t331) ∧ Aside0 (Kd.R k45 45 wc w.heap.size (fun k_ => some k_ ≠ oB Ao24 t313.length co24 ∧ some k_ ≠ oB Ao25 t316.length co25 ∧ some k_ ≠ oB Ao32 t323.length co32 ∧ some k_ ≠ oB Ao33 t326.length co33 ∧ some k_ ≠ oB Ao40 t331.length co40) (.slice Ao41 t334.length co41) t334) ∧ Aside0 (wc.heap[gb303]? = some (.cells #[.int .i64 a0_0, (.slice A0_1 l0_1.length c0_1), (.slice A0_2 l0_2.length c0_2)] 24 (0, 0))) ∧ Aside0 (wc.heap[gb321]? = some (.cells #[.int .i64 t312, (.slice Ao24 t313.length co24), (.slice Ao25 t316.length co25)] 28 (0, 0))) ∧ Aside0 (wc.heap[gb329]? = some (.cells #[.int .i64 t322, (.slice Ao32 t323.length co32), (.slice Ao33 t326.length co33)] 28 (0, 0))) ∧ Aside0 (wc.heap[gb339]? = some (.cells #[.int .i64 t330, (.slice Ao40 t331.length co40), (.slice Ao41 t334.length co41)] 28 (0, 0))) ∧ Aside0 (Below w.heap.size w wc))
      case first =>
       have H := HC74.out
       clear HC74
       by_cases c85 : t349 < 0
       ·rw [if_pos c85] at H
        have c85b0 : decide (t349 < 0) = true := decide_eq_true c85
        clear c85
        (first | rw [c85b0] | (simp only [i64_w, i32_w]; rw [c85b0]) | skip)
        have H' := aM H
        clear H
        go_wp2
        go_meet
        case rel => exact ⟨_, (true), (by first | rfl | (simp; done) | (simp [*]; done)), H', ⟨by have := HJ11.out; first | omega | exact Nat.le_refl _⟩, ⟨xH (xM p0'.out (fun _ hk => ⟨hk.1, ⟨hk.2.1, ⟨hk.2.2.1, ⟨hk.2.2.2.1, hk.2.2.2.2.1⟩⟩⟩⟩))⟩, ⟨xH (xM p1'.out (fun _ hk => ⟨hk.1, ⟨hk.2.1, ⟨hk.2.2.1, ⟨hk.2.2.2.1, hk.2.2.2.2.1⟩⟩⟩⟩))⟩, ⟨xH (xM p2'.out (fun _ hk => ⟨hk.1.1.1, ⟨hk.1.1.2.1, ⟨hk.1.1.2.2.1, ⟨hk.1.1.2.2.2.1, hk.1.1.2.2.2.2⟩⟩⟩⟩))⟩, ⟨xH (xM p3'.out (fun _ hk => ⟨hk.1.1.1, ⟨hk.1.1.2.1, ⟨hk.1.1.2.2.1, ⟨hk.1.1.2.2.2.1, hk.1.1.2.2.2.2⟩⟩⟩⟩))⟩, ⟨xH (xM p4'.out (fun _ hk => ⟨hk.1, ⟨hk.2.1, ⟨hk.2.2.1, ⟨hk.2.2.2.1, hk.2.2.2.2.1⟩⟩⟩⟩))⟩, ⟨xH (xM p5'.out (fun _ hk => ⟨hk.1, ⟨hk.2.1, ⟨hk.2.2.1, ⟨hk.2.2.2.1, hk.2.2.2.2.1⟩⟩⟩⟩))⟩, ⟨yH BK303.out⟩, ⟨yH BK321.out⟩, ⟨yH BK329.out⟩, ⟨yH BK339.out⟩, ⟨zH HB.out⟩⟩
       ·rw [if_neg c85] at H
        have c85b0 : decide (t349 < 0) = false := decide_eq_false c85
        clear c85
        (first | rw [c85b0] | (simp only [i64_w, i32_w]; rw [c85b0]) | skip)
        replace H := Option.bind_eq_some_iff.mp H
        obtain ⟨t352, A860, H⟩ := H
        replace H : (if t352 = true then (if t337 = t319 then (laws_FnExactTakeBlock.j1 kj11 a1 t319 t320 (t338 != t320) a0_0 l0_1 l0_2 t312 t313 t316 t330 t331 t334) else (laws_FnExactTakeBlock.j1 kj11 a1 t319 t320 true a0_0 l0_1 l0_2 t312 t313 t316 t330 t331 t334)) else (laws_FnExactTakeBlock.j1 kj11 a1 t319 t320 true a0_0 l0_1 l0_2 t312 t313 t316 t330 t331 t334)) = some r := H
        have A86 := aM A860
        clear A860
        by_cases c87 : t352 = true
        ·subst c87
         have H1 : (if t337 = t319 then (laws_FnExactTakeBlock.j1 kj11 a1 t319 t320 (t338 != t320) a0_0 l0_1 l0_2 t312 t313 t316 t330 t331 t334) else (laws_FnExactTakeBlock.j1 kj11 a1 t319 t320 true a0_0 l0_1 l0_2 t312 t313 t316 t330 t331 t334)) = some r := by rw [if_pos rfl] at H; exact H
         clear H
         have H := H1
         clear H1
         by_cases c88 : t337 = t319
         ·rw [if_pos c88] at H
          have c88b0 : (t337 == t319) = true := beq_iff_eq.mpr c88
          have c88b1 : (t337 != t319) = false := bne_eq_false_iff_eq.mpr c88
          clear c88
          have H' := aM H
          clear H
          have hnb89 := NB339_303.out
          have hnc89 := NB303_339.out
          have hnb90 := NB339_321.out
          have hnc90 := NB321_339.out
          have hnb91 := NB339_329.out
          have hnc91 := NB329_339.out
          have hcz92_0 : w84.cell? ⟨gb339, 0, none⟩ = some (.int .i64 t330) := yc BK339.out 0
          have hcz92_1 : w84.cell? ⟨gb339, 1, none⟩ = some (.slice Ao40 t331.length co40) := yc BK339.out 1
          have hcz92_2 : w84.cell? ⟨gb339, 2, none⟩ = some (.slice Ao41 t334.length co41) := yc BK339.out 2
          have hfz92_0 := yZ BK339.out 0
          have hfz92_1 := yZ BK339.out 1
          have hfz92_2 := yZ BK339.out 2
          have hnb93 := NB321_303.out
          have hnc93 := NB303_321.out
          have hnb94 := NB321_329.out
          have hnc94 := NB329_321.out
          have hcz95_0 : w84.cell? ⟨gb321, 0, none⟩ = some (.int .i64 t312) := yc BK321.out 0
          have hcz95_1 : w84.cell? ⟨gb321, 1, none⟩ = some (.slice Ao24 t313.length co24) := yc BK321.out 1
          have hcz95_2 : w84.cell? ⟨gb321, 2, none⟩ = some (.slice Ao25 t316.length co25) := yc BK321.out 2
          have hfz95_0 := yZ BK321.out 0
          have hfz95_1 := yZ BK321.out 1
          have hfz95_2 := yZ BK321.out 2
          go_wp2_with (first | (go_at_call 12; (with_reducible refine (laws_eqBuddy.calls kj11 t330 _ _ t331 _ _ t334 t312 _ _ t313 _ _ t316 true _ ?side1 ?side2 ?side3 ?side4 ?side5 ?side6 ?side7 ?side8 A86.out).mono ?_); (case side1 => repeat (first | exact (Kd.R_reads' p4'.out).2.2 | (with_reducible refine cA ?_ _) | (with_reducible refine cN ?_ _) | (with_reducible refine cD ?_))); (case side2 => exact (Kd.R_reads' p4'.out).2.1); (case side3 => repeat (first | exact (Kd.R_reads' p5'.out).2.2 | (with_reducible refine cA ?_ _) | (with_reducible refine cN ?_ _) | (with_reducible refine cD ?_))); (case side4 => exact (Kd.R_reads' p5'.out).2.1); (case side5 => repeat (first | exact (Kd.R_reads' p0'.out).2.2 | (with_reducible refine cA ?_ _) | (with_reducible refine cN ?_ _) | (with_reducible refine cD ?_))); (case side6 => exact (Kd.R_reads' p0'.out).2.1); (case side7 => repeat (first | exact (Kd.R_reads' p1'.out).2.2 | (with_reducible refine cA ?_ _) | (with_reducible refine cN ?_ _) | (with_reducible refine cD ?_))); (case side8 => exact (Kd.R_reads' p1'.out).2.1); rintro e w96 ⟨rfl, hb⟩; replace p0' := xK p0'.out hb; replace p1' := xK p1'.out hb; replace p2' := xK p2'.out hb; replace p3' := xK p3'.out hb; replace p4' := xK p4'.out hb; replace p5' := xK p5'.out hb; replace HO344 := xK HO344.out hb; replace HO347 := xK HO347.out hb; replace BK303 := yK BK303.out hb; replace BK321 := yK BK321.out hb; replace BK329 := yK BK329.out hb; replace BK339 := yK BK339.out hb; replace HB := aM (zT (zH HB.out) hb); (try clear hb)))
          go_meet
          case rel => exact ⟨_, ((t338 != t320)), (by first | rfl | (simp; done) | (simp [*]; done)), H', ⟨by have := HJ11.out; first | omega | exact Nat.le_refl _⟩, ⟨xH (xM p0'.out (fun _ hk => ⟨hk.1, ⟨hk.2.1, ⟨hk.2.2.1, ⟨hk.2.2.2.1, hk.2.2.2.2.1⟩⟩⟩⟩))⟩, ⟨xH (xM p1'.out (fun _ hk => ⟨hk.1, ⟨hk.2.1, ⟨hk.2.2.1, ⟨hk.2.2.2.1, hk.2.2.2.2.1⟩⟩⟩⟩))⟩, ⟨xH (xM p2'.out (fun _ hk => ⟨hk.1.1.1, ⟨hk.1.1.2.1, ⟨hk.1.1.2.2.1, ⟨hk.1.1.2.2.2.1, hk.1.1.2.2.2.2⟩⟩⟩⟩))⟩, ⟨xH (xM p3'.out (fun _ hk => ⟨hk.1.1.1, ⟨hk.1.1.2.1, ⟨hk.1.1.2.2.1, ⟨hk.1.1.2.2.2.1, hk.1.1.2.2.2.2⟩⟩⟩⟩))⟩, ⟨xH (xM p4'.out (fun _ hk => ⟨hk.1, ⟨hk.2.1, ⟨hk.2.2.1, ⟨hk.2.2.2.1, hk.2.2.2.2.1⟩⟩⟩⟩))⟩, ⟨xH (xM p5'.out (fun _ hk => ⟨hk.1, ⟨hk.2.1, ⟨hk.2.2.1, ⟨hk.2.2.2.1, hk.2.2.2.2.1⟩⟩⟩⟩))⟩, ⟨yH BK303.out⟩, ⟨yH BK321.out⟩, ⟨yH BK329.out⟩, ⟨yH BK339.out⟩, ⟨zH HB.out⟩⟩
         ·rw [if_neg c88] at H
          have c88b0 : (t337 == t319) = false := beq_eq_false_iff_ne.mpr c88
          have c88b1 : (t337 != t319) = true := bne_iff_ne.mpr c88
          have H' := aM H
          clear H
          have hnb97 := NB339_303.out
          have hnc97 := NB303_339.out
          have hnb98 := NB339_321.out
          have hnc98 := NB321_339.out
          have hnb99 := NB339_329.out
          have hnc99 := NB329_339.out
          have hcz100_0 : w84.cell? ⟨gb339, 0, none⟩ = some (.int .i64 t330) := yc BK339.out 0
          have hcz100_1 : w84.cell? ⟨gb339, 1, none⟩ = some (.slice Ao40 t331.length co40) := yc BK339.out 1
          have hcz100_2 : w84.cell? ⟨gb339, 2, none⟩ = some (.slice Ao41 t334.length co41) := yc BK339.out 2
          have hfz100_0 := yZ BK339.out 0
          have hfz100_1 := yZ BK339.out 1
          have hfz100_2 := yZ BK339.out 2
          have hnb101 := NB321_303.out
          have hnc101 := NB303_321.out
          have hnb102 := NB321_329.out
          have hnc102 := NB329_321.out
          have hcz103_0 : w84.cell? ⟨gb321, 0, none⟩ = some (.int .i64 t312) := yc BK321.out 0
          have hcz103_1 : w84.cell? ⟨gb321, 1, none⟩ = some (.slice Ao24 t313.length co24) := yc BK321.out 1
          have hcz103_2 : w84.cell? ⟨gb321, 2, none⟩ = some (.slice Ao25 t316.length co25) := yc BK321.out 2
          have hfz103_0 := yZ BK321.out 0
          have hfz103_1 := yZ BK321.out 1
          have hfz103_2 := yZ BK321.out 2
          go_wp2_with (first | (go_at_call 12; (with_reducible refine (laws_eqBuddy.calls kj11 t330 _ _ t331 _ _ t334 t312 _ _ t313 _ _ t316 true _ ?side1 ?side2 ?side3 ?side4 ?side5 ?side6 ?side7 ?side8 A86.out).mono ?_); (case side1 => repeat (first | exact (Kd.R_reads' p4'.out).2.2 | (with_reducible refine cA ?_ _) | (with_reducible refine cN ?_ _) | (with_reducible refine cD ?_))); (case side2 => exact (Kd.R_reads' p4'.out).2.1); (case side3 => repeat (first | exact (Kd.R_reads' p5'.out).2.2 | (with_reducible refine cA ?_ _) | (with_reducible refine cN ?_ _) | (with_reducible refine cD ?_))); (case side4 => exact (Kd.R_reads' p5'.out).2.1); (case side5 => repeat (first | exact (Kd.R_reads' p0'.out).2.2 | (with_reducible refine cA ?_ _) | (with_reducible refine cN ?_ _) | (with_reducible refine cD ?_))); (case side6 => exact (Kd.R_reads' p0'.out).2.1); (case side7 => repeat (first | exact (Kd.R_reads' p1'.out).2.2 | (with_reducible refine cA ?_ _) | (with_reducible refine cN ?_ _) | (with_reducible refine cD ?_))); (case side8 => exact (Kd.R_reads' p1'.out).2.1); rintro e w104 ⟨rfl, hb⟩; replace p0' := xK p0'.out hb; replace p1' := xK p1'.out hb; replace p2' := xK p2'.out hb; replace p3' := xK p3'.out hb; replace p4' := xK p4'.out hb; replace p5' := xK p5'.out hb; replace HO344 := xK HO344.out hb; replace HO347 := xK HO347.out hb; replace BK303 := yK BK303.out hb; replace BK321 := yK BK321.out hb; replace BK329 := yK BK329.out hb; replace BK339 := yK BK339.out hb; replace HB := aM (zT (zH HB.out) hb); (try clear hb)))
          go_meet
          case rel => exact ⟨_, (true), (by first | rfl | (simp; done) | (simp [*]; done)), H', ⟨by have := HJ11.out; first | omega | exact Nat.le_refl _⟩, ⟨xH (xM p0'.out (fun _ hk => ⟨hk.1, ⟨hk.2.1, ⟨hk.2.2.1, ⟨hk.2.2.2.1, hk.2.2.2.2.1⟩⟩⟩⟩))⟩, ⟨xH (xM p1'.out (fun _ hk => ⟨hk.1, ⟨hk.2.1, ⟨hk.2.2.1, ⟨hk.2.2.2.1, hk.2.2.2.2.1⟩⟩⟩⟩))⟩, ⟨xH (xM p2'.out (fun _ hk => ⟨hk.1.1.1, ⟨hk.1.1.2.1, ⟨hk.1.1.2.2.1, ⟨hk.1.1.2.2.2.1, hk.1.1.2.2.2.2⟩⟩⟩⟩))⟩, ⟨xH (xM p3'.out (fun _ hk => ⟨hk.1.1.1, ⟨hk.1.1.2.1, ⟨hk.1.1.2.2.1, ⟨hk.1.1.2.2.2.1, hk.1.1.2.2.2.2⟩⟩⟩⟩))⟩, ⟨xH (xM p4'.out (fun _ hk => ⟨hk.1, ⟨hk.2.1, ⟨hk.2.2.1, ⟨hk.2.2.2.1, hk.2.2.2.2.1⟩⟩⟩⟩))⟩, ⟨xH (xM p5'.out (fun _ hk => ⟨hk.1, ⟨hk.2.1, ⟨hk.2.2.1, ⟨hk.2.2.2.1, hk.2.2.2.2.1⟩⟩⟩⟩))⟩, ⟨yH BK303.out⟩, ⟨yH BK321.out⟩, ⟨yH BK329.out⟩, ⟨yH BK339.out⟩, ⟨zH HB.out⟩⟩
        ·replace c87 := Bool.eq_false_iff.mpr c87
         subst c87
         have H1 : (laws_FnExactTakeBlock.j1 kj11 a1 t319 t320 true a0_0 l0_1 l0_2 t312 t313 t316 t330 t331 t334) = some r := by rw [if_neg (show ¬ (false = true) by decide)] at H; exact H
         clear H
         have H := H1
         clear H1
         have H' := aM H
         clear H
         have hnb105 := NB339_303.out
         have hnc105 := NB303_339.out
         have hnb106 := NB339_321.out
         have hnc106 := NB321_339.out
         have hnb107 := NB339_329.out
         have hnc107 := NB329_339.out
         have hcz108_0 : w84.cell? ⟨gb339, 0, none⟩ = some (.int .i64 t330) := yc BK339.out 0
         have hcz108_1 : w84.cell? ⟨gb339, 1, none⟩ = some (.slice Ao40 t331.length co40) := yc BK339.out 1
         have hcz108_2 : w84.cell? ⟨gb339, 2, none⟩ = some (.slice Ao41 t334.length co41) := yc BK339.out 2
         have hfz108_0 := yZ BK339.out 0
         have hfz108_1 := yZ BK339.out 1
         have hfz108_2 := yZ BK339.out 2
         have hnb109 := NB321_303.out
         have hnc109 := NB303_321.out
         have hnb110 := NB321_329.out
         have hnc110 := NB329_321.out
         have hcz111_0 : w84.cell? ⟨gb321, 0, none⟩ = some (.int .i64 t312) := yc BK321.out 0
         have hcz111_1 : w84.cell? ⟨gb321, 1, none⟩ = some (.slice Ao24 t313.length co24) := yc BK321.out 1
         have hcz111_2 : w84.cell? ⟨gb321, 2, none⟩ = some (.slice Ao25 t316.length co25) := yc BK321.out 2
         have hfz111_0 := yZ BK321.out 0
         have hfz111_1 := yZ BK321.out 1
         have hfz111_2 := yZ BK321.out 2
         go_wp2_with (first | (go_at_call 12; (with_reducible refine (laws_eqBuddy.calls kj11 t330 _ _ t331 _ _ t334 t312 _ _ t313 _ _ t316 false _ ?side1 ?side2 ?side3 ?side4 ?side5 ?side6 ?side7 ?side8 A86.out).mono ?_); (case side1 => repeat (first | exact (Kd.R_reads' p4'.out).2.2 | (with_reducible refine cA ?_ _) | (with_reducible refine cN ?_ _) | (with_reducible refine cD ?_))); (case side2 => exact (Kd.R_reads' p4'.out).2.1); (case side3 => repeat (first | exact (Kd.R_reads' p5'.out).2.2 | (with_reducible refine cA ?_ _) | (with_reducible refine cN ?_ _) | (with_reducible refine cD ?_))); (case side4 => exact (Kd.R_reads' p5'.out).2.1); (case side5 => repeat (first | exact (Kd.R_reads' p0'.out).2.2 | (with_reducible refine cA ?_ _) | (with_reducible refine cN ?_ _) | (with_reducible refine cD ?_))); (case side6 => exact (Kd.R_reads' p0'.out).2.1); (case side7 => repeat (first | exact (Kd.R_reads' p1'.out).2.2 | (with_reducible refine cA ?_ _) | (with_reducible refine cN ?_ _) | (with_reducible refine cD ?_))); (case side8 => exact (Kd.R_reads' p1'.out).2.1); rintro e w112 ⟨rfl, hb⟩; replace p0' := xK p0'.out hb; replace p1' := xK p1'.out hb; replace p2' := xK p2'.out hb; replace p3' := xK p3'.out hb; replace p4' := xK p4'.out hb; replace p5' := xK p5'.out hb; replace HO344 := xK HO344.out hb; replace HO347 := xK HO347.out hb; replace BK303 := yK BK303.out hb; replace BK321 := yK BK321.out hb; replace BK329 := yK BK329.out hb; replace BK339 := yK BK339.out hb; replace HB := aM (zT (zH HB.out) hb); (try clear hb)))
         go_meet
         case rel => exact ⟨_, (true), (by first | rfl | (simp; done) | (simp [*]; done)), H', ⟨by have := HJ11.out; first | omega | exact Nat.le_refl _⟩, ⟨xH (xM p0'.out (fun _ hk => ⟨hk.1, ⟨hk.2.1, ⟨hk.2.2.1, ⟨hk.2.2.2.1, hk.2.2.2.2.1⟩⟩⟩⟩))⟩, ⟨xH (xM p1'.out (fun _ hk => ⟨hk.1, ⟨hk.2.1, ⟨hk.2.2.1, ⟨hk.2.2.2.1, hk.2.2.2.2.1⟩⟩⟩⟩))⟩, ⟨xH (xM p2'.out (fun _ hk => ⟨hk.1.1.1, ⟨hk.1.1.2.1, ⟨hk.1.1.2.2.1, ⟨hk.1.1.2.2.2.1, hk.1.1.2.2.2.2⟩⟩⟩⟩))⟩, ⟨xH (xM p3'.out (fun _ hk => ⟨hk.1.1.1, ⟨hk.1.1.2.1, ⟨hk.1.1.2.2.1, ⟨hk.1.1.2.2.2.1, hk.1.1.2.2.2.2⟩⟩⟩⟩))⟩, ⟨xH (xM p4'.out (fun _ hk => ⟨hk.1, ⟨hk.2.1, ⟨hk.2.2.1, ⟨hk.2.2.2.1, hk.2.2.2.2.1⟩⟩⟩⟩))⟩, ⟨xH (xM p5'.out (fun _ hk => ⟨hk.1, ⟨hk.2.1, ⟨hk.2.2.1, ⟨hk.2.2.2.1, hk.2.2.2.2.1⟩⟩⟩⟩))⟩, ⟨yH BK303.out⟩, ⟨yH BK321.out⟩, ⟨yH BK329.out⟩, ⟨yH BK339.out⟩, ⟨zH HB.out⟩⟩
      case rest =>
       clear HC74
       (try clear c1); (try clear c2); (try clear p2); (try clear c3); (try clear c4); (try clear c4b0); (try clear c5); (try clear c6); (try clear c7); (try clear c8); (try clear c9); (try clear c10); (try clear c11); (try clear c12); (try clear c13); (try clear c15); (try clear c16); (try clear c22); (try clear c29); (try clear c30); (try clear c36); (try clear c37); (try clear c38); (try clear c43); (try clear c44); (try clear c44b0); (try clear c44b1); (try clear c45); (try clear c46); (try clear c47); (try clear c49); (try clear c50); (try clear c53); (try clear c54); (try clear c55); (try clear c57); (try clear c58); (try clear c61); (try clear c62); (try clear c63); (try clear c65); (try clear c66); (try clear c69); (try clear c72); (try clear c80); (try clear c81); (try clear c82); (try clear c85); (try clear c85b0); (try clear c87); (try clear c88); (try clear c88b0); (try clear c88b1); (try clear c89); (try clear c90); (try clear c91); (try clear c93); (try clear c94); (try clear c97); (try clear c98); (try clear c99); (try clear c101); (try clear c102); (try clear c105); (try clear c106); (try clear c107); (try clear c109); (try clear c110); (try clear hcz100_0); (try clear hcz100_1); (try clear hcz100_2); (try clear hcz103_0); (try clear hcz103_1); (try clear hcz103_2); (try clear hcz108_0); (try clear hcz108_1); (try clear hcz108_2); (try clear hcz111_0); (try clear hcz111_1); (try clear hcz111_2); (try clear hcz14_0); (try clear hcz14_1); (try clear hcz14_2); (try clear hcz16_0); (try clear hcz16_1); (try clear hcz16_2); (try clear hcz23_0); (try clear hcz23_1); (try clear hcz23_2); (try clear hcz26_0); (try clear hcz26_1); (try clear hcz26_2); (try clear hcz31_0); (try clear hcz31_1); (try clear hcz31_2); (try clear hcz39_0); (try clear hcz39_1); (try clear hcz39_2); (try clear hcz48_0); (try clear hcz48_1); (try clear hcz48_2); (try clear hcz51_0); (try clear hcz51_1); (try clear hcz51_2); (try clear hcz56_0); (try clear hcz56_1); (try clear hcz56_2); (try clear hcz59_0); (try clear hcz59_1); (try clear hcz59_2); (try clear hcz64_0); (try clear hcz64_1); (try clear hcz64_2); (try clear hcz67_0); (try clear hcz67_1); (try clear hcz67_2); (try clear hcz6_0); (try clear hcz6_1); (try clear hcz6_2); (try clear hcz83_0); (try clear hcz83_1); (try clear hcz83_2); (try clear hcz92_0); (try clear hcz92_1); (try clear hcz92_2); (try clear hcz95_0); (try clear hcz95_1); (try clear hcz95_2); (try clear hfz100_0); (try clear hfz100_1); (try clear hfz100_2); (try clear hfz103_0); (try clear hfz103_1); (try clear hfz103_2); (try clear hfz108_0); (try clear hfz108_1); (try clear hfz108_2); (try clear hfz111_0); (try clear hfz111_1); (try clear hfz111_2); (try clear hfz14_0); (try clear hfz14_1); (try clear hfz14_2); (try clear hfz16_0); (try clear hfz16_1); (try clear hfz16_2); (try clear hfz23_0); (try clear hfz23_1); (try clear hfz23_2); (try clear hfz26_0); (try clear hfz26_1); (try clear hfz26_2); (try clear hfz31_0); (try clear hfz31_1); (try clear hfz31_2); (try clear hfz39_0); (try clear hfz39_1); (try clear hfz39_2); (try clear hfz48_0); (try clear hfz48_1); (try clear hfz48_2); (try clear hfz51_0); (try clear hfz51_1); (try clear hfz51_2); (try clear hfz56_0); (try clear hfz56_1); (try clear hfz56_2); (try clear hfz59_0); (try clear hfz59_1); (try clear hfz59_2); (try clear hfz64_0); (try clear hfz64_1); (try clear hfz64_2); (try clear hfz67_0); (try clear hfz67_1); (try clear hfz67_2); (try clear hfz6_0); (try clear hfz6_1); (try clear hfz6_2); (try clear hfz83_0); (try clear hfz83_1); (try clear hfz83_2); (try clear hfz92_0); (try clear hfz92_1); (try clear hfz92_2); (try clear hfz95_0); (try clear hfz95_1); (try clear hfz95_2); (try clear p2)
       obtain ⟨kq, x80_73, rfl, HA, HJ73, p0', p1', p2', p3', p4', p5', BK303, BK321, BK329, BK339, HB⟩ := hcut
       have hl330001_73 := (Kd.R_reads' p2'.out).1
       rw [hl330001_73] at p2'
       (try simp only [hl330001_73])
       (try simp only [hl330001_73] at BK303)
       (try simp only [hl330001_73] at BK321)
       (try simp only [hl330001_73] at BK329)
       (try simp only [hl330001_73] at BK339)
       (try simp only [hl330001_73] at p0')
       (try simp only [hl330001_73] at p1')
       (try simp only [hl330001_73] at p3')
       (try simp only [hl330001_73] at p4')
       (try simp only [hl330001_73] at p5')
       have hl330002_73 := (Kd.R_reads' p3'.out).1
       rw [hl330002_73] at p3'
       (try simp only [hl330002_73])
       (try simp only [hl330002_73] at BK303)
       (try simp only [hl330002_73] at BK321)
       (try simp only [hl330002_73] at BK329)
       (try simp only [hl330002_73] at BK339)
       (try simp only [hl330002_73] at p0')
       (try simp only [hl330002_73] at p1')
       (try simp only [hl330002_73] at p2')
       (try simp only [hl330002_73] at p4')
       (try simp only [hl330002_73] at p5')
       cases kq with
       | zero => exact absurd HA.out (fun h_ => by change none = some _ at h_; cases h_)
       | succ kj73 =>
        have H := HA.out
        clear HA
        simp only [laws_FnExactTakeBlock.j1] at H
        by_cases c113 : x80_73 = true
        ·subst c113
         have H1 : (some false) = some r := by rw [if_pos rfl] at H; exact H
         clear H
         have H := H1
         clear H1
         exact absurd (H.trans (congrArg some HR_.out)) (by decide)
        ·replace c113 := Bool.eq_false_iff.mpr c113
         subst c113
         have H1 : ((laws_markBuddy.f kj73 t330 t331 t334 1).bind fun bt353 => ((laws_heldBuddy.f kj73 t330 bt353.2.1 bt353.2.2 1).bind fun t356 => (if t356 < 0 then (some false) else (if t356 = bt353.1 then ((laws_toBuddy.f kj73 a0_0 l0_1 l0_2).bind fun bt357 => ((impl_TakeBlock.f kj73 bt357.1 bt357.2.1 bt357.2.2 a1).bind fun bt364 => ((laws_eqBuddy.f kj73 bt364.1 bt364.2.1 bt364.2.2.1 t312 t313 t316).bind fun t374 => (if t374 = true then (if bt364.2.2.2.1 = t319 then (laws_FnExactTakeBlock.j2 kj73 bt353.1 (bt364.2.2.2.2 != t320) t330 bt353.2.1 bt353.2.2) else (laws_FnExactTakeBlock.j2 kj73 bt353.1 true t330 bt353.2.1 bt353.2.2)) else (laws_FnExactTakeBlock.j2 kj73 bt353.1 true t330 bt353.2.1 bt353.2.2))))) else (some false))))) = some r := by rw [if_neg (show ¬ (false = true) by decide)] at H; exact H
         clear H
         have H := H1
         clear H1
         replace H := Option.bind_eq_some_iff.mp H
         obtain ⟨⟨t353, t354, t355⟩, A1140, H⟩ := H
         replace H : ((laws_heldBuddy.f kj73 t330 t354 t355 1).bind fun t356 => (if t356 < 0 then (some false) else (if t356 = t353 then ((laws_toBuddy.f kj73 a0_0 l0_1 l0_2).bind fun bt357 => ((impl_TakeBlock.f kj73 bt357.1 bt357.2.1 bt357.2.2 a1).bind fun bt364 => ((laws_eqBuddy.f kj73 bt364.1 bt364.2.1 bt364.2.2.1 t312 t313 t316).bind fun t374 => (if t374 = true then (if bt364.2.2.2.1 = t319 then (laws_FnExactTakeBlock.j2 kj73 t353 (bt364.2.2.2.2 != t320) t330 t354 t355) else (laws_FnExactTakeBlock.j2 kj73 t353 true t330 t354 t355)) else (laws_FnExactTakeBlock.j2 kj73 t353 true t330 t354 t355))))) else (some false)))) = some r := H
         have A114 := aM A1140
         clear A1140
         replace H := Option.bind_eq_some_iff.mp H
         obtain ⟨t356, A1150, H⟩ := H
         replace H : (if t356 < 0 then (some false) else (if t356 = t353 then ((laws_toBuddy.f kj73 a0_0 l0_1 l0_2).bind fun bt357 => ((impl_TakeBlock.f kj73 bt357.1 bt357.2.1 bt357.2.2 a1).bind fun bt364 => ((laws_eqBuddy.f kj73 bt364.1 bt364.2.1 bt364.2.2.1 t312 t313 t316).bind fun t374 => (if t374 = true then (if bt364.2.2.2.1 = t319 then (laws_FnExactTakeBlock.j2 kj73 t353 (bt364.2.2.2.2 != t320) t330 t354 t355) else (laws_FnExactTakeBlock.j2 kj73 t353 true t330 t354 t355)) else (laws_FnExactTakeBlock.j2 kj73 t353 true t330 t354 t355))))) else (some false))) = some r := H
         have A115 := aM A1150
         clear A1150
         by_cases c116 : t356 < 0
         ·rw [if_pos c116] at H
          have c116b0 : decide (t356 < 0) = true := decide_eq_true c116
          clear c116
          obtain rfl := Option.some.inj H
          have hnb117 := NB339_303.out
          have hnc117 := NB303_339.out
          have hnb118 := NB339_321.out
          have hnc118 := NB321_339.out
          have hnb119 := NB339_329.out
          have hnc119 := NB329_339.out
          have hcz120_0 : wc.cell? ⟨gb339, 0, none⟩ = some (.int .i64 t330) := yc BK339.out 0
          have hcz120_1 : wc.cell? ⟨gb339, 1, none⟩ = some (.slice Ao40 t331.length co40) := yc BK339.out 1
          have hcz120_2 : wc.cell? ⟨gb339, 2, none⟩ = some (.slice Ao41 t334.length co41) := yc BK339.out 2
          have hfz120_0 := yZ BK339.out 0
          have hfz120_1 := yZ BK339.out 1
          have hfz120_2 := yZ BK339.out 2
          go_wp2_with (first | ((with_reducible refine gate_callee (f := 13) rfl ?_); refine goesL_ (some 83) rfl rfl Try.func13 (by kernel_rfl) rfl #[.agg #[.int .i64 t330, .slice Ao40 t331.length co40, .slice Ao41 t334.length co41], .int .i64 1] rfl (by (try simp only [List.map_toArray, List.map_cons, List.map_nil]); first | done | rfl | (simp only [List.length_drop, List.length_take]; rfl)) ?_; (with_reducible refine (laws_markBuddy.calls kj73 t330 (fun k_ => some k_ = oB Ao40 t331.length co40) (.slice Ao40 t331.length co40) t331 (fun k_ => some k_ = oB Ao41 t334.length co41) (.slice Ao41 t334.length co41) t334 1 t353 t354 t355 w _ ?side1 ?side2 ?side3 ?side4 ?side5 A114.out).mono ?_); (case side1 => repeat (first | (with_reducible first | exact HB.out | apply zA | apply zN | apply zD | refine zS ?_ GE303.out | refine zS ?_ GE321.out | refine zS ?_ GE329.out | refine zS ?_ GE339.out) | exact HB.out)); (case side2 => exact Kd.R_tight rfl p4'.out); (case side3 => exact fun k_ e_ => (p4'.out.1 k_ e_.symm).2.2.2.2); (case side4 => exact Kd.R_tight rfl p5'.out); (case side5 => exact fun k_ e_ => (p5'.out.1 k_ e_.symm).2.2.2.2); rintro e w121 ⟨rfl, hy0, hy1, hb, hkp⟩; refine ⟨_, rfl, ?_⟩; replace p0' := kB p0'.out hkp (fun k_ hk_ hs_ => Or.elim hs_ (fun e_ => (hk_.2.2.2.1) e_) (fun e_ => (hk_.2.2.2.2) e_)); replace p1' := kB p1'.out hkp (fun k_ hk_ hs_ => Or.elim hs_ (fun e_ => (hk_.2.2.2.1) e_) (fun e_ => (hk_.2.2.2.2) e_)); replace p2' := kB p2'.out hkp (fun k_ hk_ hs_ => Or.elim hs_ (fun e_ => (hk_.2.2.2.1) e_) (fun e_ => (hk_.2.2.2.2) e_)); replace p3' := kB p3'.out hkp (fun k_ hk_ hs_ => Or.elim hs_ (fun e_ => (hk_.2.2.2.1) e_) (fun e_ => (hk_.2.2.2.2) e_)); replace BK303 := aM (blk_kept BK303.out hkp (fun hs_ => Or.elim hs_ (fun e_ => (fun e_ => (Kd.R_ne p4'.out BK303.out (by decide)) e_) e_) (fun e_ => (fun e_ => (Kd.R_ne p5'.out BK303.out (by decide)) e_) e_))); replace BK321 := aM (blk_kept BK321.out hkp (fun hs_ => Or.elim hs_ (fun e_ => (fun e_ => (Kd.R_ne p4'.out BK321.out (by decide)) e_) e_) (fun e_ => (fun e_ => (Kd.R_ne p5'.out BK321.out (by decide)) e_) e_))); replace BK329 := aM (blk_kept BK329.out hkp (fun hs_ => Or.elim hs_ (fun e_ => (fun e_ => (Kd.R_ne p4'.out BK329.out (by decide)) e_) e_) (fun e_ => (fun e_ => (Kd.R_ne p5'.out BK329.out (by decide)) e_) e_))); replace BK339 := aM (blk_kept BK339.out hkp (fun hs_ => Or.elim hs_ (fun e_ => (fun e_ => (Kd.R_ne p4'.out BK339.out (by decide)) e_) e_) (fun e_ => (fun e_ => (Kd.R_ne p5'.out BK339.out (by decide)) e_) e_))); replace p4' := aM (Kd.R_reok rfl hy0 (fun k_ e_ => p4'.out.1 k_ e_)); replace p5' := aM (Kd.R_reok rfl hy1 (fun k_ e_ => p5'.out.1 k_ e_)); replace HB := aM (hb); (try clear hb); (try clear hkp); (try clear hy0); (try clear hy1); have hcz122_0 : w121.cell? ⟨gb339, 0, none⟩ = some (.int .i64 t330) := yc BK339.out 0; have hcz122_1 : w121.cell? ⟨gb339, 1, none⟩ = some (.slice Ao40 t331.length co40) := yc BK339.out 1; have hcz122_2 : w121.cell? ⟨gb339, 2, none⟩ = some (.slice Ao41 t334.length co41) := yc BK339.out 2; have hfz122_0 := yZ BK339.out 0; have hfz122_1 := yZ BK339.out 1; have hfz122_2 := yZ BK339.out 2) | ((with_reducible refine gate_callee (f := 14) rfl ?_); refine goesL_ (some 86) rfl rfl Try.func14 (by kernel_rfl) rfl #[.agg #[.int .i64 t330, .slice Ao40 t354.length co40, .slice Ao41 t355.length co41], .int .i64 1] rfl (by (try simp only [List.map_toArray, List.map_cons, List.map_nil]); first | done | (rw [show t354.length = t331.length from (Kd.R_reads' p4'.out).1.symm, show t355.length = t334.length from (Kd.R_reads' p5'.out).1.symm] <;> rfl) | rfl | (simp only [List.length_drop, List.length_take]; rfl)) ?_; (with_reducible refine (laws_heldBuddy.calls kj73 t330 _ _ t354 _ _ t355 1 t356 _ ?side1 ?side2 ?side3 ?side4 A115.out).mono ?_); (case side1 => repeat (first | exact (Kd.R_reads' p4'.out).2.2 | (with_reducible refine cA ?_ _) | (with_reducible refine cN ?_ _) | (with_reducible refine cD ?_))); (case side2 => rw [show t354.length = t331.length from (Kd.R_reads' p4'.out).1.symm]; exact (Kd.R_reads' p4'.out).2.1); (case side3 => repeat (first | exact (Kd.R_reads' p5'.out).2.2 | (with_reducible refine cA ?_ _) | (with_reducible refine cN ?_ _) | (with_reducible refine cD ?_))); (case side4 => rw [show t355.length = t334.length from (Kd.R_reads' p5'.out).1.symm]; exact (Kd.R_reads' p5'.out).2.1); rintro e w123 ⟨rfl, hb⟩; refine ⟨_, rfl, ?_⟩; replace p0' := xK p0'.out hb; replace p1' := xK p1'.out hb; replace p2' := xK p2'.out hb; replace p3' := xK p3'.out hb; replace p4' := xK p4'.out hb; replace p5' := xK p5'.out hb; replace BK303 := yK BK303.out hb; replace BK321 := yK BK321.out hb; replace BK329 := yK BK329.out hb; replace BK339 := yK BK339.out hb; replace HB := aM (zT (zH HB.out) hb); (try clear hb)))
          go_ret
          exact ⟨by first | rfl | (simp [errW_none, errW_some] <;> rfl) | (simp [*, errW_none, errW_some] <;> rfl), zH HB.out⟩
         ·rw [if_neg c116] at H
          have c116b0 : decide (t356 < 0) = false := decide_eq_false c116
          clear c116
          by_cases c124 : t356 = t353
          ·rw [if_pos c124] at H
           have c124b0 : (t356 == t353) = true := beq_iff_eq.mpr c124
           have c124b1 : (t356 != t353) = false := bne_eq_false_iff_eq.mpr c124
           clear c124
           replace H := Option.bind_eq_some_iff.mp H
           obtain ⟨⟨t357, t358, t361⟩, A1250, H⟩ := H
           replace H : ((impl_TakeBlock.f kj73 t357 t358 t361 a1).bind fun bt364 => ((laws_eqBuddy.f kj73 bt364.1 bt364.2.1 bt364.2.2.1 t312 t313 t316).bind fun t374 => (if t374 = true then (if bt364.2.2.2.1 = t319 then (laws_FnExactTakeBlock.j2 kj73 t353 (bt364.2.2.2.2 != t320) t330 t354 t355) else (laws_FnExactTakeBlock.j2 kj73 t353 true t330 t354 t355)) else (laws_FnExactTakeBlock.j2 kj73 t353 true t330 t354 t355)))) = some r := H
           have A125 := aM A1250
           clear A1250
           replace H := Option.bind_eq_some_iff.mp H
           obtain ⟨⟨t364, t365, t368, t371, t372⟩, A1260, H⟩ := H
           replace H : ((laws_eqBuddy.f kj73 t364 t365 t368 t312 t313 t316).bind fun t374 => (if t374 = true then (if t371 = t319 then (laws_FnExactTakeBlock.j2 kj73 t353 (t372 != t320) t330 t354 t355) else (laws_FnExactTakeBlock.j2 kj73 t353 true t330 t354 t355)) else (laws_FnExactTakeBlock.j2 kj73 t353 true t330 t354 t355))) = some r := H
           have A126 := aM A1260
           clear A1260
           have HC127 := aM H
           clear H
           have hnb128 := NB339_303.out
           have hnc128 := NB303_339.out
           have hnb129 := NB339_321.out
           have hnc129 := NB321_339.out
           have hnb130 := NB339_329.out
           have hnc130 := NB329_339.out
           have hcz131_0 : wc.cell? ⟨gb339, 0, none⟩ = some (.int .i64 t330) := yc BK339.out 0
           have hcz131_1 : wc.cell? ⟨gb339, 1, none⟩ = some (.slice Ao40 t331.length co40) := yc BK339.out 1
           have hcz131_2 : wc.cell? ⟨gb339, 2, none⟩ = some (.slice Ao41 t334.length co41) := yc BK339.out 2
           have hfz131_0 := yZ BK339.out 0
           have hfz131_1 := yZ BK339.out 1
           have hfz131_2 := yZ BK339.out 2
           go_upto_region 25 with (first | ((with_reducible refine gate_callee (f := 13) rfl ?_); refine goesL_ (some 83) rfl rfl Try.func13 (by kernel_rfl) rfl #[.agg #[.int .i64 t330, .slice Ao40 t331.length co40, .slice Ao41 t334.length co41], .int .i64 1] rfl (by (try simp only [List.map_toArray, List.map_cons, List.map_nil]); first | done | rfl | (simp only [List.length_drop, List.length_take]; rfl)) ?_; (with_reducible refine (laws_markBuddy.calls kj73 t330 (fun k_ => some k_ = oB Ao40 t331.length co40) (.slice Ao40 t331.length co40) t331 (fun k_ => some k_ = oB Ao41 t334.length co41) (.slice Ao41 t334.length co41) t334 1 t353 t354 t355 w _ ?side1 ?side2 ?side3 ?side4 ?side5 A114.out).mono ?_); (case side1 => repeat (first | (with_reducible first | exact HB.out | apply zA | apply zN | apply zD | refine zS ?_ GE303.out | refine zS ?_ GE321.out | refine zS ?_ GE329.out | refine zS ?_ GE339.out) | exact HB.out)); (case side2 => exact Kd.R_tight rfl p4'.out); (case side3 => exact fun k_ e_ => (p4'.out.1 k_ e_.symm).2.2.2.2); (case side4 => exact Kd.R_tight rfl p5'.out); (case side5 => exact fun k_ e_ => (p5'.out.1 k_ e_.symm).2.2.2.2); rintro e w132 ⟨rfl, hy0, hy1, hb, hkp⟩; refine ⟨_, rfl, ?_⟩; replace p0' := kB p0'.out hkp (fun k_ hk_ hs_ => Or.elim hs_ (fun e_ => (hk_.2.2.2.1) e_) (fun e_ => (hk_.2.2.2.2) e_)); replace p1' := kB p1'.out hkp (fun k_ hk_ hs_ => Or.elim hs_ (fun e_ => (hk_.2.2.2.1) e_) (fun e_ => (hk_.2.2.2.2) e_)); replace p2' := kB p2'.out hkp (fun k_ hk_ hs_ => Or.elim hs_ (fun e_ => (hk_.2.2.2.1) e_) (fun e_ => (hk_.2.2.2.2) e_)); replace p3' := kB p3'.out hkp (fun k_ hk_ hs_ => Or.elim hs_ (fun e_ => (hk_.2.2.2.1) e_) (fun e_ => (hk_.2.2.2.2) e_)); replace BK303 := aM (blk_kept BK303.out hkp (fun hs_ => Or.elim hs_ (fun e_ => (fun e_ => (Kd.R_ne p4'.out BK303.out (by decide)) e_) e_) (fun e_ => (fun e_ => (Kd.R_ne p5'.out BK303.out (by decide)) e_) e_))); replace BK321 := aM (blk_kept BK321.out hkp (fun hs_ => Or.elim hs_ (fun e_ => (fun e_ => (Kd.R_ne p4'.out BK321.out (by decide)) e_) e_) (fun e_ => (fun e_ => (Kd.R_ne p5'.out BK321.out (by decide)) e_) e_))); replace BK329 := aM (blk_kept BK329.out hkp (fun hs_ => Or.elim hs_ (fun e_ => (fun e_ => (Kd.R_ne p4'.out BK329.out (by decide)) e_) e_) (fun e_ => (fun e_ => (Kd.R_ne p5'.out BK329.out (by decide)) e_) e_))); replace BK339 := aM (blk_kept BK339.out hkp (fun hs_ => Or.elim hs_ (fun e_ => (fun e_ => (Kd.R_ne p4'.out BK339.out (by decide)) e_) e_) (fun e_ => (fun e_ => (Kd.R_ne p5'.out BK339.out (by decide)) e_) e_))); replace p4' := aM (Kd.R_reok rfl hy0 (fun k_ e_ => p4'.out.1 k_ e_)); replace p5' := aM (Kd.R_reok rfl hy1 (fun k_ e_ => p5'.out.1 k_ e_)); replace HB := aM (hb); (try clear hb); (try clear hkp); (try clear hy0); (try clear hy1); have hcz133_0 : w132.cell? ⟨gb339, 0, none⟩ = some (.int .i64 t330) := yc BK339.out 0; have hcz133_1 : w132.cell? ⟨gb339, 1, none⟩ = some (.slice Ao40 t331.length co40) := yc BK339.out 1; have hcz133_2 : w132.cell? ⟨gb339, 2, none⟩ = some (.slice Ao41 t334.length co41) := yc BK339.out 2; have hfz133_0 := yZ BK339.out 0; have hfz133_1 := yZ BK339.out 1; have hfz133_2 := yZ BK339.out 2) | ((with_reducible refine gate_callee (f := 14) rfl ?_); refine goesL_ (some 86) rfl rfl Try.func14 (by kernel_rfl) rfl #[.agg #[.int .i64 t330, .slice Ao40 t354.length co40, .slice Ao41 t355.length co41], .int .i64 1] rfl (by (try simp only [List.map_toArray, List.map_cons, List.map_nil]); first | done | (rw [show t354.length = t331.length from (Kd.R_reads' p4'.out).1.symm, show t355.length = t334.length from (Kd.R_reads' p5'.out).1.symm] <;> rfl) | rfl | (simp only [List.length_drop, List.length_take]; rfl)) ?_; (with_reducible refine (laws_heldBuddy.calls kj73 t330 _ _ t354 _ _ t355 1 t356 _ ?side1 ?side2 ?side3 ?side4 A115.out).mono ?_); (case side1 => repeat (first | exact (Kd.R_reads' p4'.out).2.2 | (with_reducible refine cA ?_ _) | (with_reducible refine cN ?_ _) | (with_reducible refine cD ?_))); (case side2 => rw [show t354.length = t331.length from (Kd.R_reads' p4'.out).1.symm]; exact (Kd.R_reads' p4'.out).2.1); (case side3 => repeat (first | exact (Kd.R_reads' p5'.out).2.2 | (with_reducible refine cA ?_ _) | (with_reducible refine cN ?_ _) | (with_reducible refine cD ?_))); (case side4 => rw [show t355.length = t334.length from (Kd.R_reads' p5'.out).1.symm]; exact (Kd.R_reads' p5'.out).2.1); rintro e w134 ⟨rfl, hb⟩; refine ⟨_, rfl, ?_⟩; replace p0' := xK p0'.out hb; replace p1' := xK p1'.out hb; replace p2' := xK p2'.out hb; replace p3' := xK p3'.out hb; replace p4' := xK p4'.out hb; replace p5' := xK p5'.out hb; replace BK303 := yK BK303.out hb; replace BK321 := yK BK321.out hb; replace BK329 := yK BK329.out hb; replace BK339 := yK BK339.out hb; replace HB := aM (zT (zH HB.out) hb); (try clear hb); have hnb135 := NB303_321.out; have hnc135 := NB321_303.out; have hnb136 := NB303_329.out; have hnc136 := NB329_303.out; have hcz137_0 : w134.cell? ⟨gb303, 0, none⟩ = some (.int .i64 a0_0) := yc BK303.out 0; have hcz137_1 : w134.cell? ⟨gb303, 1, none⟩ = some (.slice A0_1 l0_1.length c0_1) := yc BK303.out 1; have hcz137_2 : w134.cell? ⟨gb303, 2, none⟩ = some (.slice A0_2 l0_2.length c0_2) := yc BK303.out 2; have hfz137_0 := yZ BK303.out 0; have hfz137_1 := yZ BK303.out 1; have hfz137_2 := yZ BK303.out 2) | ((with_reducible refine gate_callee (f := 10) rfl ?_); refine goesL_ (some 94) rfl rfl Try.func10 (by kernel_rfl) rfl #[.agg #[.int .i64 a0_0, .slice A0_1 l0_1.length c0_1, .slice A0_2 l0_2.length c0_2]] rfl (by (try simp only [List.map_toArray, List.map_cons, List.map_nil]); first | done | rfl | (simp only [List.length_drop, List.length_take]; rfl)) ?_; (with_reducible refine (laws_toBuddy.calls kj73 a0_0 _ _ l0_1 _ _ l0_2 t357 t358 t361 _ ?side1 ?side2 ?side3 ?side4 A125.out).mono ?_); (case side1 => exact cK HR0_1.out HB.out); (case side2 => exact HC0_1.out); (case side3 => exact cK HR0_2.out HB.out); (case side4 => exact HC0_2.out); rintro e w138 ⟨v359, v362, rfl, ho0, ho1, hb⟩; refine ⟨_, rfl, ?_⟩; have HO360 := aM (xL (Kd.R_new' (Kd.R_new' (Kd.R_new' (Kd.R_new' (Kd.R_new' (Kd.R_new' ho0 (Kd.R_lt (xH p0'.out))) (Kd.R_lt (xH p1'.out))) (Kd.R_lt (xH p2'.out))) (Kd.R_lt (xH p3'.out))) (Kd.R_lt (xH p4'.out))) (Kd.R_lt (xH p5'.out))) (zZ (zH HB.out))); have HO363 := aM (xL (Kd.R_new' (Kd.R_new' (Kd.R_new' (Kd.R_new' (Kd.R_new' (Kd.R_new' ho1 (Kd.R_lt (xH p0'.out))) (Kd.R_lt (xH p1'.out))) (Kd.R_lt (xH p2'.out))) (Kd.R_lt (xH p3'.out))) (Kd.R_lt (xH p4'.out))) (Kd.R_lt (xH p5'.out))) (zZ (zH HB.out))); replace p0' := aM (xM (Kd.R_told (Kd.R_told (Kd.R_old (xH p0'.out) hb) (Kd.R_base ho0)) (Kd.R_base ho1)) (fun _ h_ => h_.1)); replace p1' := aM (xM (Kd.R_told (Kd.R_told (Kd.R_old (xH p1'.out) hb) (Kd.R_base ho0)) (Kd.R_base ho1)) (fun _ h_ => h_.1)); replace p2' := aM (xM (Kd.R_told (Kd.R_told (Kd.R_old (xH p2'.out) hb) (Kd.R_base ho0)) (Kd.R_base ho1)) (fun _ h_ => h_.1)); replace p3' := aM (xM (Kd.R_told (Kd.R_told (Kd.R_old (xH p3'.out) hb) (Kd.R_base ho0)) (Kd.R_base ho1)) (fun _ h_ => h_.1)); replace p4' := aM (xM (Kd.R_told (Kd.R_told (Kd.R_old (xH p4'.out) hb) (Kd.R_base ho0)) (Kd.R_base ho1)) (fun _ h_ => h_.1)); replace p5' := aM (xM (Kd.R_told (Kd.R_told (Kd.R_old (xH p5'.out) hb) (Kd.R_base ho0)) (Kd.R_base ho1)) (fun _ h_ => h_.1)); replace BK303 := yK BK303.out hb; replace BK321 := yK BK321.out hb; replace BK329 := yK BK329.out hb; replace BK339 := yK BK339.out hb; replace HB := aM (zT (zH HB.out) hb); (try clear hb); (try clear ho0); (try clear ho1); obtain ⟨Ao139, co139, eo139⟩ := Kd.R_slice HO360.out; subst eo139; obtain ⟨Ao140, co140, eo140⟩ := Kd.R_slice HO363.out; subst eo140) | ((with_reducible refine gate_callee (f := 16) rfl ?_); refine goesL_ (some 96) rfl rfl Try.func16 (by kernel_rfl) rfl #[.agg #[.int .i64 t357, .slice Ao139 t358.length co139, .slice Ao140 t361.length co140], .int .i64 a1] rfl (by (try simp only [List.map_toArray, List.map_cons, List.map_nil]); first | done | rfl | (simp only [List.length_drop, List.length_take]; rfl)) ?_; (with_reducible refine (impl_TakeBlock.calls kj73 t357 _ _ t358 _ _ t361 a1 t364 t365 t368 t371 t372 _ ?side1 ?side2 ?side3 ?side4 A126.out).mono ?_); (case side1 => repeat (first | exact (Kd.R_reads' HO360.out).2.2 | (with_reducible refine cA ?_ _) | (with_reducible refine cN ?_ _) | (with_reducible refine cD ?_))); (case side2 => exact (Kd.R_reads' HO360.out).2.1); (case side3 => repeat (first | exact (Kd.R_reads' HO363.out).2.2 | (with_reducible refine cA ?_ _) | (with_reducible refine cN ?_ _) | (with_reducible refine cD ?_))); (case side4 => exact (Kd.R_reads' HO363.out).2.1); rintro e w141 ⟨v366, v369, rfl, ho0, ho1, hb⟩; refine ⟨_, rfl, ?_⟩; have HO367 := aM (xL (Kd.R_new' (Kd.R_new' (Kd.R_new' (Kd.R_new' (Kd.R_new' (Kd.R_new' (Kd.R_new' (Kd.R_new' ho0 (Kd.R_lt (xH p0'.out))) (Kd.R_lt (xH p1'.out))) (Kd.R_lt (xH p2'.out))) (Kd.R_lt (xH p3'.out))) (Kd.R_lt (xH p4'.out))) (Kd.R_lt (xH p5'.out))) (Kd.R_lt (xH HO360.out))) (Kd.R_lt (xH HO363.out))) (zZ (zH HB.out))); have HO370 := aM (xL (Kd.R_new' (Kd.R_new' (Kd.R_new' (Kd.R_new' (Kd.R_new' (Kd.R_new' (Kd.R_new' (Kd.R_new' ho1 (Kd.R_lt (xH p0'.out))) (Kd.R_lt (xH p1'.out))) (Kd.R_lt (xH p2'.out))) (Kd.R_lt (xH p3'.out))) (Kd.R_lt (xH p4'.out))) (Kd.R_lt (xH p5'.out))) (Kd.R_lt (xH HO360.out))) (Kd.R_lt (xH HO363.out))) (zZ (zH HB.out))); replace p0' := aM (xM (Kd.R_told (Kd.R_told (Kd.R_old (xH p0'.out) hb) (Kd.R_base ho0)) (Kd.R_base ho1)) (fun _ h_ => h_.1)); replace p1' := aM (xM (Kd.R_told (Kd.R_told (Kd.R_old (xH p1'.out) hb) (Kd.R_base ho0)) (Kd.R_base ho1)) (fun _ h_ => h_.1)); replace p2' := aM (xM (Kd.R_told (Kd.R_told (Kd.R_old (xH p2'.out) hb) (Kd.R_base ho0)) (Kd.R_base ho1)) (fun _ h_ => h_.1)); replace p3' := aM (xM (Kd.R_told (Kd.R_told (Kd.R_old (xH p3'.out) hb) (Kd.R_base ho0)) (Kd.R_base ho1)) (fun _ h_ => h_.1)); replace p4' := aM (xM (Kd.R_told (Kd.R_told (Kd.R_old (xH p4'.out) hb) (Kd.R_base ho0)) (Kd.R_base ho1)) (fun _ h_ => h_.1)); replace p5' := aM (xM (Kd.R_told (Kd.R_told (Kd.R_old (xH p5'.out) hb) (Kd.R_base ho0)) (Kd.R_base ho1)) (fun _ h_ => h_.1)); replace HO360 := aM (xM (Kd.R_told (Kd.R_told (Kd.R_old (xH HO360.out) hb) (Kd.R_base ho0)) (Kd.R_base ho1)) (fun _ h_ => h_.1)); replace HO363 := aM (xM (Kd.R_told (Kd.R_told (Kd.R_old (xH HO363.out) hb) (Kd.R_base ho0)) (Kd.R_base ho1)) (fun _ h_ => h_.1)); replace BK303 := yK BK303.out hb; replace BK321 := yK BK321.out hb; replace BK329 := yK BK329.out hb; replace BK339 := yK BK339.out hb; replace HB := aM (zT (zH HB.out) hb); (try clear hb); (try clear ho0); (try clear ho1)) | ((with_reducible refine gate_dst (N := 16) rfl ?_); refine box_event ?hg (N := 16) ?hd (cs := #[.int .i64 0, .slice none 0 0, .slice none 0 0]) (t := 28) ?hr ?_; (case hd => rfl); (case hg => rfl); (case hr => first | (go_simp; done) | (go_simp; rfl)); intro gb373 hg w142 hbox hb; replace p0' := xK p0'.out hb; replace p1' := xK p1'.out hb; replace p2' := xK p2'.out hb; replace p3' := xK p3'.out hb; replace p4' := xK p4'.out hb; replace p5' := xK p5'.out hb; replace HO360 := xK HO360.out hb; replace HO363 := xK HO363.out hb; replace HO367 := xK HO367.out hb; replace HO370 := xK HO370.out hb; have BK373 := aM (hbox); have GW373 := aM ((by rw [hg]; exact (zZ (zH HB.out)) : w.heap.size ≤ gb373)); have GE373 := aM ((by rw [hg]; exact (zZ (zH HB.out)) : w.heap.size ≤ gb373)); replace HB := aM (zT (zH HB.out) hb); have NB303_373 := nL BK303.out hg; have NB373_303 := nR BK303.out hg; replace BK303 := yK BK303.out hb; have NB321_373 := nL BK321.out hg; have NB373_321 := nR BK321.out hg; replace BK321 := yK BK321.out hb; have NB329_373 := nL BK329.out hg; have NB373_329 := nR BK329.out hg; replace BK329 := yK BK329.out hb; have NB339_373 := nL BK339.out hg; have NB373_339 := nR BK339.out hg; replace BK339 := yK BK339.out hb; clear hb hbox hg; have hnb143 := NB373_303.out; have hnc143 := NB303_373.out; have hnb144 := NB373_321.out; have hnc144 := NB321_373.out; have hnb145 := NB373_329.out; have hnc145 := NB329_373.out; have hnb146 := NB373_339.out; have hnc146 := NB339_373.out; have hcz147_0 : w142.cell? ⟨gb373, 0, none⟩ = some (.int .i64 0) := yc BK373.out 0; have hcz147_1 : w142.cell? ⟨gb373, 1, none⟩ = some (.slice none 0 0) := yc BK373.out 1; have hcz147_2 : w142.cell? ⟨gb373, 2, none⟩ = some (.slice none 0 0) := yc BK373.out 2; have hfz147_0 := yZ BK373.out 0; have hfz147_1 := yZ BK373.out 1; have hfz147_2 := yZ BK373.out 2; obtain ⟨Ao148, co148, eo148⟩ := Kd.R_slice HO367.out; subst eo148; obtain ⟨Ao149, co149, eo149⟩ := Kd.R_slice HO370.out; subst eo149))
           (try simp only [Act.put, qA, qB, qC])
           go_cut [113] (fun v113 wc => ∃ (kq : Nat) (x113_126 : Bool), v113 = .bool x113_126 ∧ Aside0 (laws_FnExactTakeBlock.j2 kq t353 x113_126 t330 t354 t355 = some r) ∧ Aside0 (kq ≤ kj73) ∧ Aside0 (Kd.R k45 45 wc w.heap.size (fun k_ => some k_ ≠ oB Ao25 t316.length co25 ∧ some k_ ≠ oB Ao32 t350.length co32 ∧ some k_ ≠ oB Ao33 t351.length co33 ∧ some k_ ≠ oB Ao40 t331.length co40 ∧ some k_ ≠ oB Ao41 t334.length co41 ∧ some k_ ≠ oB Ao148 t365.length co148 ∧ some k_ ≠ oB Ao149 t368.length co149) (.slice Ao24 t313.length co24) t313) ∧ Aside0 (Kd.R k45 45 wc w.heap.size (fun k_ => some k_ ≠ oB Ao24 t313.length co24 ∧ some k_ ≠ oB Ao32 t350.length co32 ∧ some k_ ≠ oB Ao33 t351.length co33 ∧ some k_ ≠ oB Ao40 t331.length co40 ∧ some k_ ≠ oB Ao41 t334.length co41 ∧ some k_ ≠ oB Ao148 t365.length co148 ∧ some k_ ≠ oB Ao149 t368.length co149) (.slice Ao25 t316.length co25) t316) ∧ Aside0 (Kd.R k45 45 wc w.heap.size (fun k_ => some k_ ≠ oB Ao24 t313.length co24 ∧ some k_ ≠ oB Ao25 t316.length co25 ∧ some k_ ≠ oB Ao33 t351.length co33 ∧ some k_ ≠ oB Ao40 t331.length co40 ∧ some k_ ≠ oB Ao41 t334.length co41 ∧ some k_ ≠ oB Ao148 t365.length co148 ∧ some k_ ≠ oB Ao149 t368.length co149) (.slice Ao32 t350.length co32) t350) ∧ Aside0 (Kd.R k45 45 wc w.heap.size (fun k_ => some k_ ≠ oB Ao24 t313.length co24 ∧ some k_ ≠ oB Ao25 t316.length co25 ∧ some k_ ≠ oB Ao32 t350.length co32 ∧ some k_ ≠ oB Ao40 t331.length co40 ∧ some k_ ≠ oB Ao41 t334.length co41 ∧ some k_ ≠ oB Ao148 t365.length co148 ∧ some k_ ≠ oB Ao149 t368.length co149) (.slice Ao33 t351.length co33) t351) ∧ Aside0 (Kd.R k45 45 wc w.heap.size (fun k_ => some k_ ≠ oB Ao24 t313.length co24 ∧ some k_ ≠ oB Ao25 t316.length co25 ∧ some k_ ≠ oB Ao32 t350.length co32 ∧ some k_ ≠ oB Ao33 t351.length co33 ∧ some k_ ≠ oB Ao41 t334.length co41 ∧ some k_ ≠ oB Ao148 t365.length co148 ∧ some k_ ≠ oB Ao149 t368.length co149) (.slice Ao40 t331.length co40) t354) ∧ Aside0 (Kd.R k45 45 wc w.heap.size (fun k_ => some k_ ≠ oB Ao24 t313.length co24 ∧ some k_ ≠ oB Ao25 t316.length co25 ∧ some k_ ≠ oB Ao32 t350.length co32 ∧ some k_ ≠ oB Ao33 t351.length co33 ∧ some k_ ≠ oB Ao40 t331.length co40 ∧ some k_ ≠ oB Ao148 t365.length co148 ∧ some k_ ≠ oB Ao149 t368.length co149) (.slice Ao41 t334.length co41) t355) ∧ Aside0 (Kd.R k45 45 wc w.heap.size (fun k_ => some k_ ≠ oB Ao24 t313.length co24 ∧ some k_ ≠ oB Ao25 t316.length co25 ∧ some k_ ≠ oB Ao32 t350.length co32 ∧ some k_ ≠ oB Ao33 t351.length co33 ∧ some k_ ≠ oB Ao40 t331.length co40 ∧ some k_ ≠ oB Ao41 t334.length co41 ∧ some k_ ≠ oB Ao149 t368.length co149) (.slice Ao148 t365.length co148) t365) ∧ Aside0 (Kd.R k45 45 wc w.heap.size (fun k_ => some k_ ≠ oB Ao24 t313.length co24 ∧ some k_ ≠ oB Ao25 t316.length co25 ∧ some k_ ≠ oB Ao32 t350.length co32 ∧ some k_ ≠ oB Ao33 t351.length co33 ∧ some k_ ≠ oB Ao40 t331.length co40 ∧ some k_ ≠ oB Ao41 t334.length co41 ∧ some k_ ≠ oB Ao148 t365.length co148) (.slice Ao149 t368.length co149) t368) ∧ Aside0 (wc.heap[gb303]? = some (.cells #[.int .i64 a0_0, (.slice A0_1 l0_1.length c0_1), (.slice A0_2 l0_2.length c0_2)] 24 (0, 0))) ∧ Aside0 (wc.heap[gb321]? = some (.cells #[.int .i64 t312, (.slice Ao24 t313.length co24), (.slice Ao25 t316.length co25)] 28 (0, 0))) ∧ Aside0 (wc.heap[gb329]? = some (.cells #[.int .i64 t322, (.slice Ao32 t350.length co32), (.slice Ao33 t351.length co33)] 28 (0, 0))) ∧ Aside0 (wc.heap[gb339]? = some (.cells #[.int .i64 t330, (.slice Ao40 t331.length co40), (.slice Ao41 t334.length co41)] 28 (0, 0))) ∧ Aside0 (wc.heap[gb373]? = some (.cells #[.int .i64 t364, (.slice Ao148 t365.length co148), (.slice Ao149 t368.length co149)] 28 (0, 0))) ∧ Aside0 (Below w.heap.size w wc))
           case first =>
            have H := HC127.out
            clear HC127
            replace H := Option.bind_eq_some_iff.mp H
            obtain ⟨t374, A1500, H⟩ := H
            replace H : (if t374 = true then (if t371 = t319 then (laws_FnExactTakeBlock.j2 kj73 t353 (t372 != t320) t330 t354 t355) else (laws_FnExactTakeBlock.j2 kj73 t353 true t330 t354 t355)) else (laws_FnExactTakeBlock.j2 kj73 t353 true t330 t354 t355)) = some r := H
            have A150 := aM A1500
            clear A1500
            by_cases c151 : t374 = true
            ·subst c151
             have H1 : (if t371 = t319 then (laws_FnExactTakeBlock.j2 kj73 t353 (t372 != t320) t330 t354 t355) else (laws_FnExactTakeBlock.j2 kj73 t353 true t330 t354 t355)) = some r := by rw [if_pos rfl] at H; exact H
             clear H
             have H := H1
             clear H1
             by_cases c152 : t371 = t319
             ·rw [if_pos c152] at H
              have c152b0 : (t371 == t319) = true := beq_iff_eq.mpr c152
              have c152b1 : (t371 != t319) = false := bne_eq_false_iff_eq.mpr c152
              clear c152
              (first | rw [c152b0] | (simp only [i64_w, i32_w]; rw [c152b0]) | skip)
              have H' := aM H
              clear H
              have hnb153 := NB373_303.out
              have hnc153 := NB303_373.out
              have hnb154 := NB373_321.out
              have hnc154 := NB321_373.out
              have hnb155 := NB373_329.out
              have hnc155 := NB329_373.out
              have hnb156 := NB373_339.out
              have hnc156 := NB339_373.out
              have hcz157_0 : w142.cell? ⟨gb373, 0, none⟩ = some (.int .i64 0) := yc BK373.out 0
              have hcz157_1 : w142.cell? ⟨gb373, 1, none⟩ = some (.slice none 0 0) := yc BK373.out 1
              have hcz157_2 : w142.cell? ⟨gb373, 2, none⟩ = some (.slice none 0 0) := yc BK373.out 2
              have hfz157_0 := yZ BK373.out 0
              have hfz157_1 := yZ BK373.out 1
              have hfz157_2 := yZ BK373.out 2
              have hnb158 := NB321_303.out
              have hnc158 := NB303_321.out
              have hnb159 := NB321_329.out
              have hnc159 := NB329_321.out
              have hnb160 := NB321_339.out
              have hnc160 := NB339_321.out
              have hcz161_0 : w142.cell? ⟨gb321, 0, none⟩ = some (.int .i64 t312) := yc BK321.out 0
              have hcz161_1 : w142.cell? ⟨gb321, 1, none⟩ = some (.slice Ao24 t313.length co24) := yc BK321.out 1
              have hcz161_2 : w142.cell? ⟨gb321, 2, none⟩ = some (.slice Ao25 t316.length co25) := yc BK321.out 2
              have hfz161_0 := yZ BK321.out 0
              have hfz161_1 := yZ BK321.out 1
              have hfz161_2 := yZ BK321.out 2
              go_wp2_with (first | ((with_reducible refine gate_callee (f := 12) rfl ?_); refine goesL_ (some 102) rfl rfl Try.func12 (by kernel_rfl) rfl #[.agg #[.int .i64 t364, .slice Ao148 t365.length co148, .slice Ao149 t368.length co149], .agg #[.int .i64 t312, .slice Ao24 t313.length co24, .slice Ao25 t316.length co25]] rfl (by (try simp only [List.map_toArray, List.map_cons, List.map_nil]); first | done | rfl | (simp only [List.length_drop, List.length_take]; rfl)) ?_; (with_reducible refine (laws_eqBuddy.calls kj73 t364 _ _ t365 _ _ t368 t312 _ _ t313 _ _ t316 true _ ?side1 ?side2 ?side3 ?side4 ?side5 ?side6 ?side7 ?side8 A150.out).mono ?_); (case side1 => exact rC (n := t365.length) (c := co148) ((x3 HO367.out BK373.out (by decide) (.int .i64 t364) (.slice Ao148 t365.length co148) (.slice Ao149 t368.length co149)))); (case side2 => exact (Kd.R_reads' HO367.out).2.1); (case side3 => exact rC (n := t368.length) (c := co149) ((x3 HO370.out BK373.out (by decide) (.int .i64 t364) (.slice Ao148 t365.length co148) (.slice Ao149 t368.length co149)))); (case side4 => exact (Kd.R_reads' HO370.out).2.1); (case side5 => exact rC (n := t313.length) (c := co24) ((x3 p0'.out BK373.out (by decide) (.int .i64 t364) (.slice Ao148 t365.length co148) (.slice Ao149 t368.length co149)))); (case side6 => exact (Kd.R_reads' p0'.out).2.1); (case side7 => exact rC (n := t316.length) (c := co25) ((x3 p1'.out BK373.out (by decide) (.int .i64 t364) (.slice Ao148 t365.length co148) (.slice Ao149 t368.length co149)))); (case side8 => exact (Kd.R_reads' p1'.out).2.1); rintro e w162 ⟨rfl, hb⟩; refine ⟨_, rfl, ?_⟩; replace p0' := aM (xB (xH ((x3 p0'.out BK373.out (by decide) (.int .i64 t364) (.slice Ao148 t365.length co148) (.slice Ao149 t368.length co149)))) hb); replace p1' := aM (xB (xH ((x3 p1'.out BK373.out (by decide) (.int .i64 t364) (.slice Ao148 t365.length co148) (.slice Ao149 t368.length co149)))) hb); replace p2' := aM (xB (xH ((x3 p2'.out BK373.out (by decide) (.int .i64 t364) (.slice Ao148 t365.length co148) (.slice Ao149 t368.length co149)))) hb); replace p3' := aM (xB (xH ((x3 p3'.out BK373.out (by decide) (.int .i64 t364) (.slice Ao148 t365.length co148) (.slice Ao149 t368.length co149)))) hb); replace p4' := aM (xB (xH ((x3 p4'.out BK373.out (by decide) (.int .i64 t364) (.slice Ao148 t365.length co148) (.slice Ao149 t368.length co149)))) hb); replace p5' := aM (xB (xH ((x3 p5'.out BK373.out (by decide) (.int .i64 t364) (.slice Ao148 t365.length co148) (.slice Ao149 t368.length co149)))) hb); replace HO360 := aM (xB (xH ((x3 HO360.out BK373.out (by decide) (.int .i64 t364) (.slice Ao148 t365.length co148) (.slice Ao149 t368.length co149)))) hb); replace HO363 := aM (xB (xH ((x3 HO363.out BK373.out (by decide) (.int .i64 t364) (.slice Ao148 t365.length co148) (.slice Ao149 t368.length co149)))) hb); replace HO367 := aM (xB (xH ((x3 HO367.out BK373.out (by decide) (.int .i64 t364) (.slice Ao148 t365.length co148) (.slice Ao149 t368.length co149)))) hb); replace HO370 := aM (xB (xH ((x3 HO370.out BK373.out (by decide) (.int .i64 t364) (.slice Ao148 t365.length co148) (.slice Ao149 t368.length co149)))) hb); replace BK303 := aM (yB (g := gb303) (o := .cells #[.int .i64 a0_0, .slice A0_1 l0_1.length c0_1, .slice A0_2 l0_2.length c0_2] 24 (0, 0)) (by (with_reducible repeat (first | refine yN ?_ _ | refine yD ?_ | refine yA ?_ _)); refine yF ?_ NB303_373.out _; (with_reducible repeat (first | refine yN ?_ _ | refine yD ?_ | refine yA ?_ _)); refine yF ?_ NB303_373.out _; (with_reducible repeat (first | refine yN ?_ _ | refine yD ?_ | refine yA ?_ _)); refine yF ?_ NB303_373.out _; (with_reducible repeat (first | refine yN ?_ _ | refine yD ?_ | refine yA ?_ _)); exact BK303.out) hb); replace BK321 := aM (yB (g := gb321) (o := .cells #[.int .i64 t312, .slice Ao24 t313.length co24, .slice Ao25 t316.length co25] 28 (0, 0)) (by (with_reducible repeat (first | refine yN ?_ _ | refine yD ?_ | refine yA ?_ _)); refine yF ?_ NB321_373.out _; (with_reducible repeat (first | refine yN ?_ _ | refine yD ?_ | refine yA ?_ _)); refine yF ?_ NB321_373.out _; (with_reducible repeat (first | refine yN ?_ _ | refine yD ?_ | refine yA ?_ _)); refine yF ?_ NB321_373.out _; (with_reducible repeat (first | refine yN ?_ _ | refine yD ?_ | refine yA ?_ _)); exact BK321.out) hb); replace BK329 := aM (yB (g := gb329) (o := .cells #[.int .i64 t322, .slice Ao32 t350.length co32, .slice Ao33 t351.length co33] 28 (0, 0)) (by (with_reducible repeat (first | refine yN ?_ _ | refine yD ?_ | refine yA ?_ _)); refine yF ?_ NB329_373.out _; (with_reducible repeat (first | refine yN ?_ _ | refine yD ?_ | refine yA ?_ _)); refine yF ?_ NB329_373.out _; (with_reducible repeat (first | refine yN ?_ _ | refine yD ?_ | refine yA ?_ _)); refine yF ?_ NB329_373.out _; (with_reducible repeat (first | refine yN ?_ _ | refine yD ?_ | refine yA ?_ _)); exact BK329.out) hb); replace BK339 := aM (yB (g := gb339) (o := .cells #[.int .i64 t330, .slice Ao40 t331.length co40, .slice Ao41 t334.length co41] 28 (0, 0)) (by (with_reducible repeat (first | refine yN ?_ _ | refine yD ?_ | refine yA ?_ _)); refine yF ?_ NB339_373.out _; (with_reducible repeat (first | refine yN ?_ _ | refine yD ?_ | refine yA ?_ _)); refine yF ?_ NB339_373.out _; (with_reducible repeat (first | refine yN ?_ _ | refine yD ?_ | refine yA ?_ _)); refine yF ?_ NB339_373.out _; (with_reducible repeat (first | refine yN ?_ _ | refine yD ?_ | refine yA ?_ _)); exact BK339.out) hb); replace BK373 := aM (yB (g := gb373) (o := .cells #[.int .i64 t364, .slice Ao148 t365.length co148, .slice Ao149 t368.length co149] 28 (0, 0)) (by (with_reducible repeat (first | refine yN ?_ _ | refine yD ?_ | refine yA ?_ _)); refine yP (cs := #[.int .i64 t364, .slice Ao148 t365.length co148, .slice none 0 0]) ?_ 2 _ rfl; (with_reducible repeat (first | refine yN ?_ _ | refine yD ?_ | refine yA ?_ _)); refine yP (cs := #[.int .i64 t364, .slice none 0 0, .slice none 0 0]) ?_ 1 _ rfl; (with_reducible repeat (first | refine yN ?_ _ | refine yD ?_ | refine yA ?_ _)); refine yP (cs := #[.int .i64 0, .slice none 0 0, .slice none 0 0]) ?_ 0 _ rfl; (with_reducible repeat (first | refine yN ?_ _ | refine yD ?_ | refine yA ?_ _)); exact BK373.out) hb); replace HB := aM (zT (zH HB.out) hb); (try clear hb)))
              go_meet
              case rel => exact ⟨_, ((t372 != t320)), (by first | rfl | (simp; done) | (simp [*]; done)), H', ⟨by have := HJ11.out; have := HJ73.out; first | omega | exact Nat.le_refl _⟩, ⟨by (try simp only [hl330001_73]); (try simp only [hl330002_73]); (with_reducible repeat (first | apply xA | apply xN | apply xD)); exact xM p0'.out (fun _ hk => ⟨hk.1.1.1.1.1, ⟨hk.1.1.1.1.2.1, ⟨hk.1.1.1.1.2.2.1, ⟨hk.1.1.1.1.2.2.2.1, ⟨hk.1.1.1.1.2.2.2.2, ⟨hk.1.2, hk.2⟩⟩⟩⟩⟩⟩)⟩, ⟨by (try simp only [hl330001_73]); (try simp only [hl330002_73]); (with_reducible repeat (first | apply xA | apply xN | apply xD)); exact xM p1'.out (fun _ hk => ⟨hk.1.1.1.1.1, ⟨hk.1.1.1.1.2.1, ⟨hk.1.1.1.1.2.2.1, ⟨hk.1.1.1.1.2.2.2.1, ⟨hk.1.1.1.1.2.2.2.2, ⟨hk.1.2, hk.2⟩⟩⟩⟩⟩⟩)⟩, ⟨by (try simp only [hl330001_73]); (try simp only [hl330002_73]); (with_reducible repeat (first | apply xA | apply xN | apply xD)); exact xM p2'.out (fun _ hk => ⟨hk.1.1.1.1.1, ⟨hk.1.1.1.1.2.1, ⟨hk.1.1.1.1.2.2.1, ⟨hk.1.1.1.1.2.2.2.1, ⟨hk.1.1.1.1.2.2.2.2, ⟨hk.1.2, hk.2⟩⟩⟩⟩⟩⟩)⟩, ⟨by (try simp only [hl330001_73]); (try simp only [hl330002_73]); (with_reducible repeat (first | apply xA | apply xN | apply xD)); exact xM p3'.out (fun _ hk => ⟨hk.1.1.1.1.1, ⟨hk.1.1.1.1.2.1, ⟨hk.1.1.1.1.2.2.1, ⟨hk.1.1.1.1.2.2.2.1, ⟨hk.1.1.1.1.2.2.2.2, ⟨hk.1.2, hk.2⟩⟩⟩⟩⟩⟩)⟩, ⟨by (try simp only [hl330001_73]); (try simp only [hl330002_73]); (with_reducible repeat (first | apply xA | apply xN | apply xD)); exact xM p4'.out (fun _ hk => ⟨hk.1.1.1.1.1, ⟨hk.1.1.1.1.2.1, ⟨hk.1.1.1.1.2.2.1, ⟨hk.1.1.1.1.2.2.2.1, ⟨hk.1.1.1.1.2.2.2.2, ⟨hk.1.2, hk.2⟩⟩⟩⟩⟩⟩)⟩, ⟨by (try simp only [hl330001_73]); (try simp only [hl330002_73]); (with_reducible repeat (first | apply xA | apply xN | apply xD)); exact xM p5'.out (fun _ hk => ⟨hk.1.1.1.1.1, ⟨hk.1.1.1.1.2.1, ⟨hk.1.1.1.1.2.2.1, ⟨hk.1.1.1.1.2.2.2.1, ⟨hk.1.1.1.1.2.2.2.2, ⟨hk.1.2, hk.2⟩⟩⟩⟩⟩⟩)⟩, ⟨by (try simp only [hl330001_73]); (try simp only [hl330002_73]); (with_reducible repeat (first | apply xA | apply xN | apply xD)); exact xM HO367.out (fun _ hk => ⟨hk.1.1.1.1.1.1.1.2, ⟨hk.1.1.1.1.1.1.2, ⟨hk.1.1.1.1.1.2, ⟨hk.1.1.1.1.2, ⟨hk.1.1.1.2, ⟨hk.1.1.2, hk.1.1.1.1.1.1.1.1⟩⟩⟩⟩⟩⟩)⟩, ⟨by (try simp only [hl330001_73]); (try simp only [hl330002_73]); (with_reducible repeat (first | apply xA | apply xN | apply xD)); exact xM HO370.out (fun _ hk => ⟨hk.1.1.1.1.1.1.1.2, ⟨hk.1.1.1.1.1.1.2, ⟨hk.1.1.1.1.1.2, ⟨hk.1.1.1.1.2, ⟨hk.1.1.1.2, ⟨hk.1.1.2, hk.1.1.1.1.1.1.1.1⟩⟩⟩⟩⟩⟩)⟩, ⟨by (try simp only [hl330001_73]); (try simp only [hl330002_73]); (with_reducible repeat (first | refine yN ?_ _ | refine yD ?_ | refine yA ?_ _)); exact BK303.out⟩, ⟨by (try simp only [hl330001_73]); (try simp only [hl330002_73]); (with_reducible repeat (first | refine yN ?_ _ | refine yD ?_ | refine yA ?_ _)); exact BK321.out⟩, ⟨by (try simp only [hl330001_73]); (try simp only [hl330002_73]); (with_reducible repeat (first | refine yN ?_ _ | refine yD ?_ | refine yA ?_ _)); exact BK329.out⟩, ⟨by (try simp only [hl330001_73]); (try simp only [hl330002_73]); (with_reducible repeat (first | refine yN ?_ _ | refine yD ?_ | refine yA ?_ _)); exact BK339.out⟩, ⟨by (try simp only [hl330001_73]); (try simp only [hl330002_73]); (with_reducible repeat (first | refine yN ?_ _ | refine yD ?_ | refine yA ?_ _)); exact BK373.out⟩, ⟨zH HB.out⟩⟩
             ·rw [if_neg c152] at H
              have c152b0 : (t371 == t319) = false := beq_eq_false_iff_ne.mpr c152
              have c152b1 : (t371 != t319) = true := bne_iff_ne.mpr c152
              (first | rw [c152b0] | (simp only [i64_w, i32_w]; rw [c152b0]) | skip)
              have H' := aM H
              clear H
              have hnb163 := NB373_303.out
              have hnc163 := NB303_373.out
              have hnb164 := NB373_321.out
              have hnc164 := NB321_373.out
              have hnb165 := NB373_329.out
              have hnc165 := NB329_373.out
              have hnb166 := NB373_339.out
              have hnc166 := NB339_373.out
              have hcz167_0 : w142.cell? ⟨gb373, 0, none⟩ = some (.int .i64 0) := yc BK373.out 0
              have hcz167_1 : w142.cell? ⟨gb373, 1, none⟩ = some (.slice none 0 0) := yc BK373.out 1
              have hcz167_2 : w142.cell? ⟨gb373, 2, none⟩ = some (.slice none 0 0) := yc BK373.out 2
              have hfz167_0 := yZ BK373.out 0
              have hfz167_1 := yZ BK373.out 1
              have hfz167_2 := yZ BK373.out 2
              have hnb168 := NB321_303.out
              have hnc168 := NB303_321.out
              have hnb169 := NB321_329.out
              have hnc169 := NB329_321.out
              have hnb170 := NB321_339.out
              have hnc170 := NB339_321.out
              have hcz171_0 : w142.cell? ⟨gb321, 0, none⟩ = some (.int .i64 t312) := yc BK321.out 0
              have hcz171_1 : w142.cell? ⟨gb321, 1, none⟩ = some (.slice Ao24 t313.length co24) := yc BK321.out 1
              have hcz171_2 : w142.cell? ⟨gb321, 2, none⟩ = some (.slice Ao25 t316.length co25) := yc BK321.out 2
              have hfz171_0 := yZ BK321.out 0
              have hfz171_1 := yZ BK321.out 1
              have hfz171_2 := yZ BK321.out 2
              go_wp2_with (first | ((with_reducible refine gate_callee (f := 12) rfl ?_); refine goesL_ (some 102) rfl rfl Try.func12 (by kernel_rfl) rfl #[.agg #[.int .i64 t364, .slice Ao148 t365.length co148, .slice Ao149 t368.length co149], .agg #[.int .i64 t312, .slice Ao24 t313.length co24, .slice Ao25 t316.length co25]] rfl (by (try simp only [List.map_toArray, List.map_cons, List.map_nil]); first | done | rfl | (simp only [List.length_drop, List.length_take]; rfl)) ?_; (with_reducible refine (laws_eqBuddy.calls kj73 t364 _ _ t365 _ _ t368 t312 _ _ t313 _ _ t316 true _ ?side1 ?side2 ?side3 ?side4 ?side5 ?side6 ?side7 ?side8 A150.out).mono ?_); (case side1 => exact rC (n := t365.length) (c := co148) ((x3 HO367.out BK373.out (by decide) (.int .i64 t364) (.slice Ao148 t365.length co148) (.slice Ao149 t368.length co149)))); (case side2 => exact (Kd.R_reads' HO367.out).2.1); (case side3 => exact rC (n := t368.length) (c := co149) ((x3 HO370.out BK373.out (by decide) (.int .i64 t364) (.slice Ao148 t365.length co148) (.slice Ao149 t368.length co149)))); (case side4 => exact (Kd.R_reads' HO370.out).2.1); (case side5 => exact rC (n := t313.length) (c := co24) ((x3 p0'.out BK373.out (by decide) (.int .i64 t364) (.slice Ao148 t365.length co148) (.slice Ao149 t368.length co149)))); (case side6 => exact (Kd.R_reads' p0'.out).2.1); (case side7 => exact rC (n := t316.length) (c := co25) ((x3 p1'.out BK373.out (by decide) (.int .i64 t364) (.slice Ao148 t365.length co148) (.slice Ao149 t368.length co149)))); (case side8 => exact (Kd.R_reads' p1'.out).2.1); rintro e w172 ⟨rfl, hb⟩; refine ⟨_, rfl, ?_⟩; replace p0' := aM (xB (xH ((x3 p0'.out BK373.out (by decide) (.int .i64 t364) (.slice Ao148 t365.length co148) (.slice Ao149 t368.length co149)))) hb); replace p1' := aM (xB (xH ((x3 p1'.out BK373.out (by decide) (.int .i64 t364) (.slice Ao148 t365.length co148) (.slice Ao149 t368.length co149)))) hb); replace p2' := aM (xB (xH ((x3 p2'.out BK373.out (by decide) (.int .i64 t364) (.slice Ao148 t365.length co148) (.slice Ao149 t368.length co149)))) hb); replace p3' := aM (xB (xH ((x3 p3'.out BK373.out (by decide) (.int .i64 t364) (.slice Ao148 t365.length co148) (.slice Ao149 t368.length co149)))) hb); replace p4' := aM (xB (xH ((x3 p4'.out BK373.out (by decide) (.int .i64 t364) (.slice Ao148 t365.length co148) (.slice Ao149 t368.length co149)))) hb); replace p5' := aM (xB (xH ((x3 p5'.out BK373.out (by decide) (.int .i64 t364) (.slice Ao148 t365.length co148) (.slice Ao149 t368.length co149)))) hb); replace HO360 := aM (xB (xH ((x3 HO360.out BK373.out (by decide) (.int .i64 t364) (.slice Ao148 t365.length co148) (.slice Ao149 t368.length co149)))) hb); replace HO363 := aM (xB (xH ((x3 HO363.out BK373.out (by decide) (.int .i64 t364) (.slice Ao148 t365.length co148) (.slice Ao149 t368.length co149)))) hb); replace HO367 := aM (xB (xH ((x3 HO367.out BK373.out (by decide) (.int .i64 t364) (.slice Ao148 t365.length co148) (.slice Ao149 t368.length co149)))) hb); replace HO370 := aM (xB (xH ((x3 HO370.out BK373.out (by decide) (.int .i64 t364) (.slice Ao148 t365.length co148) (.slice Ao149 t368.length co149)))) hb); replace BK303 := aM (yB (g := gb303) (o := .cells #[.int .i64 a0_0, .slice A0_1 l0_1.length c0_1, .slice A0_2 l0_2.length c0_2] 24 (0, 0)) (by (with_reducible repeat (first | refine yN ?_ _ | refine yD ?_ | refine yA ?_ _)); refine yF ?_ NB303_373.out _; (with_reducible repeat (first | refine yN ?_ _ | refine yD ?_ | refine yA ?_ _)); refine yF ?_ NB303_373.out _; (with_reducible repeat (first | refine yN ?_ _ | refine yD ?_ | refine yA ?_ _)); refine yF ?_ NB303_373.out _; (with_reducible repeat (first | refine yN ?_ _ | refine yD ?_ | refine yA ?_ _)); exact BK303.out) hb); replace BK321 := aM (yB (g := gb321) (o := .cells #[.int .i64 t312, .slice Ao24 t313.length co24, .slice Ao25 t316.length co25] 28 (0, 0)) (by (with_reducible repeat (first | refine yN ?_ _ | refine yD ?_ | refine yA ?_ _)); refine yF ?_ NB321_373.out _; (with_reducible repeat (first | refine yN ?_ _ | refine yD ?_ | refine yA ?_ _)); refine yF ?_ NB321_373.out _; (with_reducible repeat (first | refine yN ?_ _ | refine yD ?_ | refine yA ?_ _)); refine yF ?_ NB321_373.out _; (with_reducible repeat (first | refine yN ?_ _ | refine yD ?_ | refine yA ?_ _)); exact BK321.out) hb); replace BK329 := aM (yB (g := gb329) (o := .cells #[.int .i64 t322, .slice Ao32 t350.length co32, .slice Ao33 t351.length co33] 28 (0, 0)) (by (with_reducible repeat (first | refine yN ?_ _ | refine yD ?_ | refine yA ?_ _)); refine yF ?_ NB329_373.out _; (with_reducible repeat (first | refine yN ?_ _ | refine yD ?_ | refine yA ?_ _)); refine yF ?_ NB329_373.out _; (with_reducible repeat (first | refine yN ?_ _ | refine yD ?_ | refine yA ?_ _)); refine yF ?_ NB329_373.out _; (with_reducible repeat (first | refine yN ?_ _ | refine yD ?_ | refine yA ?_ _)); exact BK329.out) hb); replace BK339 := aM (yB (g := gb339) (o := .cells #[.int .i64 t330, .slice Ao40 t331.length co40, .slice Ao41 t334.length co41] 28 (0, 0)) (by (with_reducible repeat (first | refine yN ?_ _ | refine yD ?_ | refine yA ?_ _)); refine yF ?_ NB339_373.out _; (with_reducible repeat (first | refine yN ?_ _ | refine yD ?_ | refine yA ?_ _)); refine yF ?_ NB339_373.out _; (with_reducible repeat (first | refine yN ?_ _ | refine yD ?_ | refine yA ?_ _)); refine yF ?_ NB339_373.out _; (with_reducible repeat (first | refine yN ?_ _ | refine yD ?_ | refine yA ?_ _)); exact BK339.out) hb); replace BK373 := aM (yB (g := gb373) (o := .cells #[.int .i64 t364, .slice Ao148 t365.length co148, .slice Ao149 t368.length co149] 28 (0, 0)) (by (with_reducible repeat (first | refine yN ?_ _ | refine yD ?_ | refine yA ?_ _)); refine yP (cs := #[.int .i64 t364, .slice Ao148 t365.length co148, .slice none 0 0]) ?_ 2 _ rfl; (with_reducible repeat (first | refine yN ?_ _ | refine yD ?_ | refine yA ?_ _)); refine yP (cs := #[.int .i64 t364, .slice none 0 0, .slice none 0 0]) ?_ 1 _ rfl; (with_reducible repeat (first | refine yN ?_ _ | refine yD ?_ | refine yA ?_ _)); refine yP (cs := #[.int .i64 0, .slice none 0 0, .slice none 0 0]) ?_ 0 _ rfl; (with_reducible repeat (first | refine yN ?_ _ | refine yD ?_ | refine yA ?_ _)); exact BK373.out) hb); replace HB := aM (zT (zH HB.out) hb); (try clear hb)))
              go_meet
              case rel => exact ⟨_, (true), (by first | rfl | (simp; done) | (simp [*]; done)), H', ⟨by have := HJ11.out; have := HJ73.out; first | omega | exact Nat.le_refl _⟩, ⟨by (try simp only [hl330001_73]); (try simp only [hl330002_73]); (with_reducible repeat (first | apply xA | apply xN | apply xD)); exact xM p0'.out (fun _ hk => ⟨hk.1.1.1.1.1, ⟨hk.1.1.1.1.2.1, ⟨hk.1.1.1.1.2.2.1, ⟨hk.1.1.1.1.2.2.2.1, ⟨hk.1.1.1.1.2.2.2.2, ⟨hk.1.2, hk.2⟩⟩⟩⟩⟩⟩)⟩, ⟨by (try simp only [hl330001_73]); (try simp only [hl330002_73]); (with_reducible repeat (first | apply xA | apply xN | apply xD)); exact xM p1'.out (fun _ hk => ⟨hk.1.1.1.1.1, ⟨hk.1.1.1.1.2.1, ⟨hk.1.1.1.1.2.2.1, ⟨hk.1.1.1.1.2.2.2.1, ⟨hk.1.1.1.1.2.2.2.2, ⟨hk.1.2, hk.2⟩⟩⟩⟩⟩⟩)⟩, ⟨by (try simp only [hl330001_73]); (try simp only [hl330002_73]); (with_reducible repeat (first | apply xA | apply xN | apply xD)); exact xM p2'.out (fun _ hk => ⟨hk.1.1.1.1.1, ⟨hk.1.1.1.1.2.1, ⟨hk.1.1.1.1.2.2.1, ⟨hk.1.1.1.1.2.2.2.1, ⟨hk.1.1.1.1.2.2.2.2, ⟨hk.1.2, hk.2⟩⟩⟩⟩⟩⟩)⟩, ⟨by (try simp only [hl330001_73]); (try simp only [hl330002_73]); (with_reducible repeat (first | apply xA | apply xN | apply xD)); exact xM p3'.out (fun _ hk => ⟨hk.1.1.1.1.1, ⟨hk.1.1.1.1.2.1, ⟨hk.1.1.1.1.2.2.1, ⟨hk.1.1.1.1.2.2.2.1, ⟨hk.1.1.1.1.2.2.2.2, ⟨hk.1.2, hk.2⟩⟩⟩⟩⟩⟩)⟩, ⟨by (try simp only [hl330001_73]); (try simp only [hl330002_73]); (with_reducible repeat (first | apply xA | apply xN | apply xD)); exact xM p4'.out (fun _ hk => ⟨hk.1.1.1.1.1, ⟨hk.1.1.1.1.2.1, ⟨hk.1.1.1.1.2.2.1, ⟨hk.1.1.1.1.2.2.2.1, ⟨hk.1.1.1.1.2.2.2.2, ⟨hk.1.2, hk.2⟩⟩⟩⟩⟩⟩)⟩, ⟨by (try simp only [hl330001_73]); (try simp only [hl330002_73]); (with_reducible repeat (first | apply xA | apply xN | apply xD)); exact xM p5'.out (fun _ hk => ⟨hk.1.1.1.1.1, ⟨hk.1.1.1.1.2.1, ⟨hk.1.1.1.1.2.2.1, ⟨hk.1.1.1.1.2.2.2.1, ⟨hk.1.1.1.1.2.2.2.2, ⟨hk.1.2, hk.2⟩⟩⟩⟩⟩⟩)⟩, ⟨by (try simp only [hl330001_73]); (try simp only [hl330002_73]); (with_reducible repeat (first | apply xA | apply xN | apply xD)); exact xM HO367.out (fun _ hk => ⟨hk.1.1.1.1.1.1.1.2, ⟨hk.1.1.1.1.1.1.2, ⟨hk.1.1.1.1.1.2, ⟨hk.1.1.1.1.2, ⟨hk.1.1.1.2, ⟨hk.1.1.2, hk.1.1.1.1.1.1.1.1⟩⟩⟩⟩⟩⟩)⟩, ⟨by (try simp only [hl330001_73]); (try simp only [hl330002_73]); (with_reducible repeat (first | apply xA | apply xN | apply xD)); exact xM HO370.out (fun _ hk => ⟨hk.1.1.1.1.1.1.1.2, ⟨hk.1.1.1.1.1.1.2, ⟨hk.1.1.1.1.1.2, ⟨hk.1.1.1.1.2, ⟨hk.1.1.1.2, ⟨hk.1.1.2, hk.1.1.1.1.1.1.1.1⟩⟩⟩⟩⟩⟩)⟩, ⟨by (try simp only [hl330001_73]); (try simp only [hl330002_73]); (with_reducible repeat (first | refine yN ?_ _ | refine yD ?_ | refine yA ?_ _)); exact BK303.out⟩, ⟨by (try simp only [hl330001_73]); (try simp only [hl330002_73]); (with_reducible repeat (first | refine yN ?_ _ | refine yD ?_ | refine yA ?_ _)); exact BK321.out⟩, ⟨by (try simp only [hl330001_73]); (try simp only [hl330002_73]); (with_reducible repeat (first | refine yN ?_ _ | refine yD ?_ | refine yA ?_ _)); exact BK329.out⟩, ⟨by (try simp only [hl330001_73]); (try simp only [hl330002_73]); (with_reducible repeat (first | refine yN ?_ _ | refine yD ?_ | refine yA ?_ _)); exact BK339.out⟩, ⟨by (try simp only [hl330001_73]); (try simp only [hl330002_73]); (with_reducible repeat (first | refine yN ?_ _ | refine yD ?_ | refine yA ?_ _)); exact BK373.out⟩, ⟨zH HB.out⟩⟩
            ·replace c151 := Bool.eq_false_iff.mpr c151
             subst c151
             have H1 : (laws_FnExactTakeBlock.j2 kj73 t353 true t330 t354 t355) = some r := by rw [if_neg (show ¬ (false = true) by decide)] at H; exact H
             clear H
             have H := H1
             clear H1
             have H' := aM H
             clear H
             have hnb173 := NB373_303.out
             have hnc173 := NB303_373.out
             have hnb174 := NB373_321.out
             have hnc174 := NB321_373.out
             have hnb175 := NB373_329.out
             have hnc175 := NB329_373.out
             have hnb176 := NB373_339.out
             have hnc176 := NB339_373.out
             have hcz177_0 : w142.cell? ⟨gb373, 0, none⟩ = some (.int .i64 0) := yc BK373.out 0
             have hcz177_1 : w142.cell? ⟨gb373, 1, none⟩ = some (.slice none 0 0) := yc BK373.out 1
             have hcz177_2 : w142.cell? ⟨gb373, 2, none⟩ = some (.slice none 0 0) := yc BK373.out 2
             have hfz177_0 := yZ BK373.out 0
             have hfz177_1 := yZ BK373.out 1
             have hfz177_2 := yZ BK373.out 2
             have hnb178 := NB321_303.out
             have hnc178 := NB303_321.out
             have hnb179 := NB321_329.out
             have hnc179 := NB329_321.out
             have hnb180 := NB321_339.out
             have hnc180 := NB339_321.out
             have hcz181_0 : w142.cell? ⟨gb321, 0, none⟩ = some (.int .i64 t312) := yc BK321.out 0
             have hcz181_1 : w142.cell? ⟨gb321, 1, none⟩ = some (.slice Ao24 t313.length co24) := yc BK321.out 1
             have hcz181_2 : w142.cell? ⟨gb321, 2, none⟩ = some (.slice Ao25 t316.length co25) := yc BK321.out 2
             have hfz181_0 := yZ BK321.out 0
             have hfz181_1 := yZ BK321.out 1
             have hfz181_2 := yZ BK321.out 2
             go_wp2_with (first | ((with_reducible refine gate_callee (f := 12) rfl ?_); refine goesL_ (some 102) rfl rfl Try.func12 (by kernel_rfl) rfl #[.agg #[.int .i64 t364, .slice Ao148 t365.length co148, .slice Ao149 t368.length co149], .agg #[.int .i64 t312, .slice Ao24 t313.length co24, .slice Ao25 t316.length co25]] rfl (by (try simp only [List.map_toArray, List.map_cons, List.map_nil]); first | done | rfl | (simp only [List.length_drop, List.length_take]; rfl)) ?_; (with_reducible refine (laws_eqBuddy.calls kj73 t364 _ _ t365 _ _ t368 t312 _ _ t313 _ _ t316 false _ ?side1 ?side2 ?side3 ?side4 ?side5 ?side6 ?side7 ?side8 A150.out).mono ?_); (case side1 => exact rC (n := t365.length) (c := co148) ((x3 HO367.out BK373.out (by decide) (.int .i64 t364) (.slice Ao148 t365.length co148) (.slice Ao149 t368.length co149)))); (case side2 => exact (Kd.R_reads' HO367.out).2.1); (case side3 => exact rC (n := t368.length) (c := co149) ((x3 HO370.out BK373.out (by decide) (.int .i64 t364) (.slice Ao148 t365.length co148) (.slice Ao149 t368.length co149)))); (case side4 => exact (Kd.R_reads' HO370.out).2.1); (case side5 => exact rC (n := t313.length) (c := co24) ((x3 p0'.out BK373.out (by decide) (.int .i64 t364) (.slice Ao148 t365.length co148) (.slice Ao149 t368.length co149)))); (case side6 => exact (Kd.R_reads' p0'.out).2.1); (case side7 => exact rC (n := t316.length) (c := co25) ((x3 p1'.out BK373.out (by decide) (.int .i64 t364) (.slice Ao148 t365.length co148) (.slice Ao149 t368.length co149)))); (case side8 => exact (Kd.R_reads' p1'.out).2.1); rintro e w182 ⟨rfl, hb⟩; refine ⟨_, rfl, ?_⟩; replace p0' := aM (xB (xH ((x3 p0'.out BK373.out (by decide) (.int .i64 t364) (.slice Ao148 t365.length co148) (.slice Ao149 t368.length co149)))) hb); replace p1' := aM (xB (xH ((x3 p1'.out BK373.out (by decide) (.int .i64 t364) (.slice Ao148 t365.length co148) (.slice Ao149 t368.length co149)))) hb); replace p2' := aM (xB (xH ((x3 p2'.out BK373.out (by decide) (.int .i64 t364) (.slice Ao148 t365.length co148) (.slice Ao149 t368.length co149)))) hb); replace p3' := aM (xB (xH ((x3 p3'.out BK373.out (by decide) (.int .i64 t364) (.slice Ao148 t365.length co148) (.slice Ao149 t368.length co149)))) hb); replace p4' := aM (xB (xH ((x3 p4'.out BK373.out (by decide) (.int .i64 t364) (.slice Ao148 t365.length co148) (.slice Ao149 t368.length co149)))) hb); replace p5' := aM (xB (xH ((x3 p5'.out BK373.out (by decide) (.int .i64 t364) (.slice Ao148 t365.length co148) (.slice Ao149 t368.length co149)))) hb); replace HO360 := aM (xB (xH ((x3 HO360.out BK373.out (by decide) (.int .i64 t364) (.slice Ao148 t365.length co148) (.slice Ao149 t368.length co149)))) hb); replace HO363 := aM (xB (xH ((x3 HO363.out BK373.out (by decide) (.int .i64 t364) (.slice Ao148 t365.length co148) (.slice Ao149 t368.length co149)))) hb); replace HO367 := aM (xB (xH ((x3 HO367.out BK373.out (by decide) (.int .i64 t364) (.slice Ao148 t365.length co148) (.slice Ao149 t368.length co149)))) hb); replace HO370 := aM (xB (xH ((x3 HO370.out BK373.out (by decide) (.int .i64 t364) (.slice Ao148 t365.length co148) (.slice Ao149 t368.length co149)))) hb); replace BK303 := aM (yB (g := gb303) (o := .cells #[.int .i64 a0_0, .slice A0_1 l0_1.length c0_1, .slice A0_2 l0_2.length c0_2] 24 (0, 0)) (by (with_reducible repeat (first | refine yN ?_ _ | refine yD ?_ | refine yA ?_ _)); refine yF ?_ NB303_373.out _; (with_reducible repeat (first | refine yN ?_ _ | refine yD ?_ | refine yA ?_ _)); refine yF ?_ NB303_373.out _; (with_reducible repeat (first | refine yN ?_ _ | refine yD ?_ | refine yA ?_ _)); refine yF ?_ NB303_373.out _; (with_reducible repeat (first | refine yN ?_ _ | refine yD ?_ | refine yA ?_ _)); exact BK303.out) hb); replace BK321 := aM (yB (g := gb321) (o := .cells #[.int .i64 t312, .slice Ao24 t313.length co24, .slice Ao25 t316.length co25] 28 (0, 0)) (by (with_reducible repeat (first | refine yN ?_ _ | refine yD ?_ | refine yA ?_ _)); refine yF ?_ NB321_373.out _; (with_reducible repeat (first | refine yN ?_ _ | refine yD ?_ | refine yA ?_ _)); refine yF ?_ NB321_373.out _; (with_reducible repeat (first | refine yN ?_ _ | refine yD ?_ | refine yA ?_ _)); refine yF ?_ NB321_373.out _; (with_reducible repeat (first | refine yN ?_ _ | refine yD ?_ | refine yA ?_ _)); exact BK321.out) hb); replace BK329 := aM (yB (g := gb329) (o := .cells #[.int .i64 t322, .slice Ao32 t350.length co32, .slice Ao33 t351.length co33] 28 (0, 0)) (by (with_reducible repeat (first | refine yN ?_ _ | refine yD ?_ | refine yA ?_ _)); refine yF ?_ NB329_373.out _; (with_reducible repeat (first | refine yN ?_ _ | refine yD ?_ | refine yA ?_ _)); refine yF ?_ NB329_373.out _; (with_reducible repeat (first | refine yN ?_ _ | refine yD ?_ | refine yA ?_ _)); refine yF ?_ NB329_373.out _; (with_reducible repeat (first | refine yN ?_ _ | refine yD ?_ | refine yA ?_ _)); exact BK329.out) hb); replace BK339 := aM (yB (g := gb339) (o := .cells #[.int .i64 t330, .slice Ao40 t331.length co40, .slice Ao41 t334.length co41] 28 (0, 0)) (by (with_reducible repeat (first | refine yN ?_ _ | refine yD ?_ | refine yA ?_ _)); refine yF ?_ NB339_373.out _; (with_reducible repeat (first | refine yN ?_ _ | refine yD ?_ | refine yA ?_ _)); refine yF ?_ NB339_373.out _; (with_reducible repeat (first | refine yN ?_ _ | refine yD ?_ | refine yA ?_ _)); refine yF ?_ NB339_373.out _; (with_reducible repeat (first | refine yN ?_ _ | refine yD ?_ | refine yA ?_ _)); exact BK339.out) hb); replace BK373 := aM (yB (g := gb373) (o := .cells #[.int .i64 t364, .slice Ao148 t365.length co148, .slice Ao149 t368.length co149] 28 (0, 0)) (by (with_reducible repeat (first | refine yN ?_ _ | refine yD ?_ | refine yA ?_ _)); refine yP (cs := #[.int .i64 t364, .slice Ao148 t365.length co148, .slice none 0 0]) ?_ 2 _ rfl; (with_reducible repeat (first | refine yN ?_ _ | refine yD ?_ | refine yA ?_ _)); refine yP (cs := #[.int .i64 t364, .slice none 0 0, .slice none 0 0]) ?_ 1 _ rfl; (with_reducible repeat (first | refine yN ?_ _ | refine yD ?_ | refine yA ?_ _)); refine yP (cs := #[.int .i64 0, .slice none 0 0, .slice none 0 0]) ?_ 0 _ rfl; (with_reducible repeat (first | refine yN ?_ _ | refine yD ?_ | refine yA ?_ _)); exact BK373.out) hb); replace HB := aM (zT (zH HB.out) hb); (try clear hb)))
             go_meet
             case rel => exact ⟨_, (true), (by first | rfl | (simp; done) | (simp [*]; done)), H', ⟨by have := HJ11.out; have := HJ73.out; first | omega | exact Nat.le_refl _⟩, ⟨by (try simp only [hl330001_73]); (try simp only [hl330002_73]); (with_reducible repeat (first | apply xA | apply xN | apply xD)); exact xM p0'.out (fun _ hk => ⟨hk.1.1.1.1.1, ⟨hk.1.1.1.1.2.1, ⟨hk.1.1.1.1.2.2.1, ⟨hk.1.1.1.1.2.2.2.1, ⟨hk.1.1.1.1.2.2.2.2, ⟨hk.1.2, hk.2⟩⟩⟩⟩⟩⟩)⟩, ⟨by (try simp only [hl330001_73]); (try simp only [hl330002_73]); (with_reducible repeat (first | apply xA | apply xN | apply xD)); exact xM p1'.out (fun _ hk => ⟨hk.1.1.1.1.1, ⟨hk.1.1.1.1.2.1, ⟨hk.1.1.1.1.2.2.1, ⟨hk.1.1.1.1.2.2.2.1, ⟨hk.1.1.1.1.2.2.2.2, ⟨hk.1.2, hk.2⟩⟩⟩⟩⟩⟩)⟩, ⟨by (try simp only [hl330001_73]); (try simp only [hl330002_73]); (with_reducible repeat (first | apply xA | apply xN | apply xD)); exact xM p2'.out (fun _ hk => ⟨hk.1.1.1.1.1, ⟨hk.1.1.1.1.2.1, ⟨hk.1.1.1.1.2.2.1, ⟨hk.1.1.1.1.2.2.2.1, ⟨hk.1.1.1.1.2.2.2.2, ⟨hk.1.2, hk.2⟩⟩⟩⟩⟩⟩)⟩, ⟨by (try simp only [hl330001_73]); (try simp only [hl330002_73]); (with_reducible repeat (first | apply xA | apply xN | apply xD)); exact xM p3'.out (fun _ hk => ⟨hk.1.1.1.1.1, ⟨hk.1.1.1.1.2.1, ⟨hk.1.1.1.1.2.2.1, ⟨hk.1.1.1.1.2.2.2.1, ⟨hk.1.1.1.1.2.2.2.2, ⟨hk.1.2, hk.2⟩⟩⟩⟩⟩⟩)⟩, ⟨by (try simp only [hl330001_73]); (try simp only [hl330002_73]); (with_reducible repeat (first | apply xA | apply xN | apply xD)); exact xM p4'.out (fun _ hk => ⟨hk.1.1.1.1.1, ⟨hk.1.1.1.1.2.1, ⟨hk.1.1.1.1.2.2.1, ⟨hk.1.1.1.1.2.2.2.1, ⟨hk.1.1.1.1.2.2.2.2, ⟨hk.1.2, hk.2⟩⟩⟩⟩⟩⟩)⟩, ⟨by (try simp only [hl330001_73]); (try simp only [hl330002_73]); (with_reducible repeat (first | apply xA | apply xN | apply xD)); exact xM p5'.out (fun _ hk => ⟨hk.1.1.1.1.1, ⟨hk.1.1.1.1.2.1, ⟨hk.1.1.1.1.2.2.1, ⟨hk.1.1.1.1.2.2.2.1, ⟨hk.1.1.1.1.2.2.2.2, ⟨hk.1.2, hk.2⟩⟩⟩⟩⟩⟩)⟩, ⟨by (try simp only [hl330001_73]); (try simp only [hl330002_73]); (with_reducible repeat (first | apply xA | apply xN | apply xD)); exact xM HO367.out (fun _ hk => ⟨hk.1.1.1.1.1.1.1.2, ⟨hk.1.1.1.1.1.1.2, ⟨hk.1.1.1.1.1.2, ⟨hk.1.1.1.1.2, ⟨hk.1.1.1.2, ⟨hk.1.1.2, hk.1.1.1.1.1.1.1.1⟩⟩⟩⟩⟩⟩)⟩, ⟨by (try simp only [hl330001_73]); (try simp only [hl330002_73]); (with_reducible repeat (first | apply xA | apply xN | apply xD)); exact xM HO370.out (fun _ hk => ⟨hk.1.1.1.1.1.1.1.2, ⟨hk.1.1.1.1.1.1.2, ⟨hk.1.1.1.1.1.2, ⟨hk.1.1.1.1.2, ⟨hk.1.1.1.2, ⟨hk.1.1.2, hk.1.1.1.1.1.1.1.1⟩⟩⟩⟩⟩⟩)⟩, ⟨by (try simp only [hl330001_73]); (try simp only [hl330002_73]); (with_reducible repeat (first | refine yN ?_ _ | refine yD ?_ | refine yA ?_ _)); exact BK303.out⟩, ⟨by (try simp only [hl330001_73]); (try simp only [hl330002_73]); (with_reducible repeat (first | refine yN ?_ _ | refine yD ?_ | refine yA ?_ _)); exact BK321.out⟩, ⟨by (try simp only [hl330001_73]); (try simp only [hl330002_73]); (with_reducible repeat (first | refine yN ?_ _ | refine yD ?_ | refine yA ?_ _)); exact BK329.out⟩, ⟨by (try simp only [hl330001_73]); (try simp only [hl330002_73]); (with_reducible repeat (first | refine yN ?_ _ | refine yD ?_ | refine yA ?_ _)); exact BK339.out⟩, ⟨by (try simp only [hl330001_73]); (try simp only [hl330002_73]); (with_reducible repeat (first | refine yN ?_ _ | refine yD ?_ | refine yA ?_ _)); exact BK373.out⟩, ⟨zH HB.out⟩⟩
           case rest =>
            clear HC127
            (try clear c1); (try clear c2); (try clear p2); (try clear c3); (try clear c4); (try clear c4b0); (try clear c5); (try clear c6); (try clear c7); (try clear c8); (try clear c9); (try clear c10); (try clear c11); (try clear c12); (try clear c13); (try clear c14); (try clear c15); (try clear c16); (try clear c17); (try clear c18); (try clear c22); (try clear c29); (try clear c30); (try clear c36); (try clear c37); (try clear c38); (try clear c43); (try clear c44); (try clear c44b0); (try clear c44b1); (try clear c45); (try clear c46); (try clear c47); (try clear c49); (try clear c50); (try clear c53); (try clear c54); (try clear c55); (try clear c57); (try clear c58); (try clear c61); (try clear c62); (try clear c63); (try clear c65); (try clear c66); (try clear c69); (try clear c72); (try clear c80); (try clear c81); (try clear c82); (try clear c85); (try clear c85b0); (try clear c87); (try clear c88); (try clear c88b0); (try clear c88b1); (try clear c89); (try clear c90); (try clear c91); (try clear c93); (try clear c94); (try clear c97); (try clear c98); (try clear c99); (try clear c101); (try clear c102); (try clear c105); (try clear c106); (try clear c107); (try clear c109); (try clear c110); (try clear c113); (try clear c116); (try clear c116b0); (try clear c117); (try clear c118); (try clear c119); (try clear c124); (try clear c124b0); (try clear c124b1); (try clear c128); (try clear c129); (try clear c130); (try clear c135); (try clear c136); (try clear c143); (try clear c144); (try clear c145); (try clear c146); (try clear c151); (try clear c152); (try clear c152b0); (try clear c152b1); (try clear c153); (try clear c154); (try clear c155); (try clear c156); (try clear c158); (try clear c159); (try clear c160); (try clear c163); (try clear c164); (try clear c165); (try clear c166); (try clear c168); (try clear c169); (try clear c170); (try clear c173); (try clear c174); (try clear c175); (try clear c176); (try clear c178); (try clear c179); (try clear c180); (try clear hcz100_0); (try clear hcz100_1); (try clear hcz100_2); (try clear hcz103_0); (try clear hcz103_1); (try clear hcz103_2); (try clear hcz108_0); (try clear hcz108_1); (try clear hcz108_2); (try clear hcz111_0); (try clear hcz111_1); (try clear hcz111_2); (try clear hcz120_0); (try clear hcz120_1); (try clear hcz120_2); (try clear hcz122_0); (try clear hcz122_1); (try clear hcz122_2); (try clear hcz131_0); (try clear hcz131_1); (try clear hcz131_2); (try clear hcz133_0); (try clear hcz133_1); (try clear hcz133_2); (try clear hcz137_0); (try clear hcz137_1); (try clear hcz137_2); (try clear hcz147_0); (try clear hcz147_1); (try clear hcz147_2); (try clear hcz14_0); (try clear hcz14_1); (try clear hcz14_2); (try clear hcz157_0); (try clear hcz157_1); (try clear hcz157_2); (try clear hcz161_0); (try clear hcz161_1); (try clear hcz161_2); (try clear hcz167_0); (try clear hcz167_1); (try clear hcz167_2); (try clear hcz16_0); (try clear hcz16_1); (try clear hcz16_2); (try clear hcz171_0); (try clear hcz171_1); (try clear hcz171_2); (try clear hcz177_0); (try clear hcz177_1); (try clear hcz177_2); (try clear hcz181_0); (try clear hcz181_1); (try clear hcz181_2); (try clear hcz23_0); (try clear hcz23_1); (try clear hcz23_2); (try clear hcz26_0); (try clear hcz26_1); (try clear hcz26_2); (try clear hcz31_0); (try clear hcz31_1); (try clear hcz31_2); (try clear hcz39_0); (try clear hcz39_1); (try clear hcz39_2); (try clear hcz48_0); (try clear hcz48_1); (try clear hcz48_2); (try clear hcz51_0); (try clear hcz51_1); (try clear hcz51_2); (try clear hcz56_0); (try clear hcz56_1); (try clear hcz56_2); (try clear hcz59_0); (try clear hcz59_1); (try clear hcz59_2); (try clear hcz64_0); (try clear hcz64_1); (try clear hcz64_2); (try clear hcz67_0); (try clear hcz67_1); (try clear hcz67_2); (try clear hcz6_0); (try clear hcz6_1); (try clear hcz6_2); (try clear hcz83_0); (try clear hcz83_1); (try clear hcz83_2); (try clear hcz92_0); (try clear hcz92_1); (try clear hcz92_2); (try clear hcz95_0); (try clear hcz95_1); (try clear hcz95_2); (try clear hfz100_0); (try clear hfz100_1); (try clear hfz100_2); (try clear hfz103_0); (try clear hfz103_1); (try clear hfz103_2); (try clear hfz108_0); (try clear hfz108_1); (try clear hfz108_2); (try clear hfz111_0); (try clear hfz111_1); (try clear hfz111_2); (try clear hfz120_0); (try clear hfz120_1); (try clear hfz120_2); (try clear hfz122_0); (try clear hfz122_1); (try clear hfz122_2); (try clear hfz131_0); (try clear hfz131_1); (try clear hfz131_2); (try clear hfz133_0); (try clear hfz133_1); (try clear hfz133_2); (try clear hfz137_0); (try clear hfz137_1); (try clear hfz137_2); (try clear hfz147_0); (try clear hfz147_1); (try clear hfz147_2); (try clear hfz14_0); (try clear hfz14_1); (try clear hfz14_2); (try clear hfz157_0); (try clear hfz157_1); (try clear hfz157_2); (try clear hfz161_0); (try clear hfz161_1); (try clear hfz161_2); (try clear hfz167_0); (try clear hfz167_1); (try clear hfz167_2); (try clear hfz16_0); (try clear hfz16_1); (try clear hfz16_2); (try clear hfz171_0); (try clear hfz171_1); (try clear hfz171_2); (try clear hfz177_0); (try clear hfz177_1); (try clear hfz177_2); (try clear hfz181_0); (try clear hfz181_1); (try clear hfz181_2); (try clear hfz23_0); (try clear hfz23_1); (try clear hfz23_2); (try clear hfz26_0); (try clear hfz26_1); (try clear hfz26_2); (try clear hfz31_0); (try clear hfz31_1); (try clear hfz31_2); (try clear hfz39_0); (try clear hfz39_1); (try clear hfz39_2); (try clear hfz48_0); (try clear hfz48_1); (try clear hfz48_2); (try clear hfz51_0); (try clear hfz51_1); (try clear hfz51_2); (try clear hfz56_0); (try clear hfz56_1); (try clear hfz56_2); (try clear hfz59_0); (try clear hfz59_1); (try clear hfz59_2); (try clear hfz64_0); (try clear hfz64_1); (try clear hfz64_2); (try clear hfz67_0); (try clear hfz67_1); (try clear hfz67_2); (try clear hfz6_0); (try clear hfz6_1); (try clear hfz6_2); (try clear hfz83_0); (try clear hfz83_1); (try clear hfz83_2); (try clear hfz92_0); (try clear hfz92_1); (try clear hfz92_2); (try clear hfz95_0); (try clear hfz95_1); (try clear hfz95_2); (try clear p2)
            obtain ⟨kq, x113_126, rfl, HA, HJ126, p0', p1', p2', p3', p4', p5', p6', p7', BK303, BK321, BK329, BK339, BK373, HB⟩ := hcut
            have hl340001_126 := (Kd.R_reads' p4'.out).1
            rw [hl340001_126] at p4'
            (try simp only [hl340001_126])
            (try simp only [hl340001_126] at BK303)
            (try simp only [hl340001_126] at BK321)
            (try simp only [hl340001_126] at BK329)
            (try simp only [hl340001_126] at BK339)
            (try simp only [hl340001_126] at BK373)
            (try simp only [hl340001_126] at p0')
            (try simp only [hl340001_126] at p1')
            (try simp only [hl340001_126] at p2')
            (try simp only [hl340001_126] at p3')
            (try simp only [hl340001_126] at p5')
            (try simp only [hl340001_126] at p6')
            (try simp only [hl340001_126] at p7')
            have hl340002_126 := (Kd.R_reads' p5'.out).1
            rw [hl340002_126] at p5'
            (try simp only [hl340002_126])
            (try simp only [hl340002_126] at BK303)
            (try simp only [hl340002_126] at BK321)
            (try simp only [hl340002_126] at BK329)
            (try simp only [hl340002_126] at BK339)
            (try simp only [hl340002_126] at BK373)
            (try simp only [hl340002_126] at p0')
            (try simp only [hl340002_126] at p1')
            (try simp only [hl340002_126] at p2')
            (try simp only [hl340002_126] at p3')
            (try simp only [hl340002_126] at p4')
            (try simp only [hl340002_126] at p6')
            (try simp only [hl340002_126] at p7')
            cases kq with
            | zero => exact absurd HA.out (fun h_ => by change none = some _ at h_; cases h_)
            | succ kj126 =>
             have H := HA.out
             clear HA
             simp only [laws_FnExactTakeBlock.j2] at H
             by_cases c183 : x113_126 = true
             ·subst c183
              have H1 : (some false) = some r := by rw [if_pos rfl] at H; exact H
              clear H
              have H := H1
              clear H1
              exact absurd (H.trans (congrArg some HR_.out)) (by decide)
             ·replace c183 := Bool.eq_false_iff.mpr c183
              subst c183
              have H1 : ((laws_heldBuddy.f kj126 t330 t354 t355 1).bind fun t375 => (if t375 < 0 then (some false) else (if t375 = t353 then (some true) else (some false)))) = some r := by rw [if_neg (show ¬ (false = true) by decide)] at H; exact H
              clear H
              have H := H1
              clear H1
              replace H := Option.bind_eq_some_iff.mp H
              obtain ⟨t375, A1840, H⟩ := H
              replace H : (if t375 < 0 then (some false) else (if t375 = t353 then (some true) else (some false))) = some r := H
              have A184 := aM A1840
              clear A1840
              by_cases c185 : t375 < 0
              ·rw [if_pos c185] at H
               have c185b0 : decide (t375 < 0) = true := decide_eq_true c185
               clear c185
               obtain rfl := Option.some.inj H
               have hnb186 := NB339_303.out
               have hnc186 := NB303_339.out
               have hnb187 := NB339_321.out
               have hnc187 := NB321_339.out
               have hnb188 := NB339_329.out
               have hnc188 := NB329_339.out
               have hnb189 := NB339_373.out
               have hnc189 := NB373_339.out
               have hcz190_0 : wc.cell? ⟨gb339, 0, none⟩ = some (.int .i64 t330) := yc BK339.out 0
               have hcz190_1 : wc.cell? ⟨gb339, 1, none⟩ = some (.slice Ao40 t354.length co40) := yc BK339.out 1
               have hcz190_2 : wc.cell? ⟨gb339, 2, none⟩ = some (.slice Ao41 t355.length co41) := yc BK339.out 2
               have hfz190_0 := yZ BK339.out 0
               have hfz190_1 := yZ BK339.out 1
               have hfz190_2 := yZ BK339.out 2
               go_wp2_with (first | ((with_reducible refine gate_callee (f := 14) rfl ?_); refine goesL_ (some 116) rfl rfl Try.func14 (by kernel_rfl) rfl #[.agg #[.int .i64 t330, .slice Ao40 t354.length co40, .slice Ao41 t355.length co41], .int .i64 1] rfl (by (try simp only [List.map_toArray, List.map_cons, List.map_nil]); first | done | rfl | (simp only [List.length_drop, List.length_take]; rfl)) ?_; (with_reducible refine (laws_heldBuddy.calls kj126 t330 _ _ t354 _ _ t355 1 t375 _ ?side1 ?side2 ?side3 ?side4 A184.out).mono ?_); (case side1 => repeat (first | exact (Kd.R_reads' p4'.out).2.2 | (with_reducible refine cA ?_ _) | (with_reducible refine cN ?_ _) | (with_reducible refine cD ?_))); (case side2 => exact (Kd.R_reads' p4'.out).2.1); (case side3 => repeat (first | exact (Kd.R_reads' p5'.out).2.2 | (with_reducible refine cA ?_ _) | (with_reducible refine cN ?_ _) | (with_reducible refine cD ?_))); (case side4 => exact (Kd.R_reads' p5'.out).2.1); rintro e w191 ⟨rfl, hb⟩; refine ⟨_, rfl, ?_⟩; replace p0' := xK p0'.out hb; replace p1' := xK p1'.out hb; replace p2' := xK p2'.out hb; replace p3' := xK p3'.out hb; replace p4' := xK p4'.out hb; replace p5' := xK p5'.out hb; replace p6' := xK p6'.out hb; replace p7' := xK p7'.out hb; replace BK303 := yK BK303.out hb; replace BK321 := yK BK321.out hb; replace BK329 := yK BK329.out hb; replace BK339 := yK BK339.out hb; replace BK373 := yK BK373.out hb; replace HB := aM (zT (zH HB.out) hb); (try clear hb)))
               go_ret
               exact ⟨by first | rfl | (simp [errW_none, errW_some] <;> rfl) | (simp [*, errW_none, errW_some] <;> rfl), zH HB.out⟩
              ·rw [if_neg c185] at H
               have c185b0 : decide (t375 < 0) = false := decide_eq_false c185
               clear c185
               by_cases c192 : t375 = t353
               ·rw [if_pos c192] at H
                have c192b0 : (t375 == t353) = true := beq_iff_eq.mpr c192
                have c192b1 : (t375 != t353) = false := bne_eq_false_iff_eq.mpr c192
                clear c192
                obtain rfl := Option.some.inj H
                have hnb193 := NB339_303.out
                have hnc193 := NB303_339.out
                have hnb194 := NB339_321.out
                have hnc194 := NB321_339.out
                have hnb195 := NB339_329.out
                have hnc195 := NB329_339.out
                have hnb196 := NB339_373.out
                have hnc196 := NB373_339.out
                have hcz197_0 : wc.cell? ⟨gb339, 0, none⟩ = some (.int .i64 t330) := yc BK339.out 0
                have hcz197_1 : wc.cell? ⟨gb339, 1, none⟩ = some (.slice Ao40 t354.length co40) := yc BK339.out 1
                have hcz197_2 : wc.cell? ⟨gb339, 2, none⟩ = some (.slice Ao41 t355.length co41) := yc BK339.out 2
                have hfz197_0 := yZ BK339.out 0
                have hfz197_1 := yZ BK339.out 1
                have hfz197_2 := yZ BK339.out 2
                go_wp2_with (first | ((with_reducible refine gate_callee (f := 14) rfl ?_); refine goesL_ (some 116) rfl rfl Try.func14 (by kernel_rfl) rfl #[.agg #[.int .i64 t330, .slice Ao40 t354.length co40, .slice Ao41 t355.length co41], .int .i64 1] rfl (by (try simp only [List.map_toArray, List.map_cons, List.map_nil]); first | done | rfl | (simp only [List.length_drop, List.length_take]; rfl)) ?_; (with_reducible refine (laws_heldBuddy.calls kj126 t330 _ _ t354 _ _ t355 1 t375 _ ?side1 ?side2 ?side3 ?side4 A184.out).mono ?_); (case side1 => repeat (first | exact (Kd.R_reads' p4'.out).2.2 | (with_reducible refine cA ?_ _) | (with_reducible refine cN ?_ _) | (with_reducible refine cD ?_))); (case side2 => exact (Kd.R_reads' p4'.out).2.1); (case side3 => repeat (first | exact (Kd.R_reads' p5'.out).2.2 | (with_reducible refine cA ?_ _) | (with_reducible refine cN ?_ _) | (with_reducible refine cD ?_))); (case side4 => exact (Kd.R_reads' p5'.out).2.1); rintro e w198 ⟨rfl, hb⟩; refine ⟨_, rfl, ?_⟩; replace p0' := xK p0'.out hb; replace p1' := xK p1'.out hb; replace p2' := xK p2'.out hb; replace p3' := xK p3'.out hb; replace p4' := xK p4'.out hb; replace p5' := xK p5'.out hb; replace p6' := xK p6'.out hb; replace p7' := xK p7'.out hb; replace BK303 := yK BK303.out hb; replace BK321 := yK BK321.out hb; replace BK329 := yK BK329.out hb; replace BK339 := yK BK339.out hb; replace BK373 := yK BK373.out hb; replace HB := aM (zT (zH HB.out) hb); (try clear hb)))
                go_ret
                exact ⟨by first | rfl | (simp [errW_none, errW_some] <;> rfl) | (simp [*, errW_none, errW_some] <;> rfl), zH HB.out⟩
               ·rw [if_neg c192] at H
                have c192b0 : (t375 == t353) = false := beq_eq_false_iff_ne.mpr c192
                have c192b1 : (t375 != t353) = true := bne_iff_ne.mpr c192
                obtain rfl := Option.some.inj H
                have hnb199 := NB339_303.out
                have hnc199 := NB303_339.out
                have hnb200 := NB339_321.out
                have hnc200 := NB321_339.out
                have hnb201 := NB339_329.out
                have hnc201 := NB329_339.out
                have hnb202 := NB339_373.out
                have hnc202 := NB373_339.out
                have hcz203_0 : wc.cell? ⟨gb339, 0, none⟩ = some (.int .i64 t330) := yc BK339.out 0
                have hcz203_1 : wc.cell? ⟨gb339, 1, none⟩ = some (.slice Ao40 t354.length co40) := yc BK339.out 1
                have hcz203_2 : wc.cell? ⟨gb339, 2, none⟩ = some (.slice Ao41 t355.length co41) := yc BK339.out 2
                have hfz203_0 := yZ BK339.out 0
                have hfz203_1 := yZ BK339.out 1
                have hfz203_2 := yZ BK339.out 2
                go_wp2_with (first | ((with_reducible refine gate_callee (f := 14) rfl ?_); refine goesL_ (some 116) rfl rfl Try.func14 (by kernel_rfl) rfl #[.agg #[.int .i64 t330, .slice Ao40 t354.length co40, .slice Ao41 t355.length co41], .int .i64 1] rfl (by (try simp only [List.map_toArray, List.map_cons, List.map_nil]); first | done | rfl | (simp only [List.length_drop, List.length_take]; rfl)) ?_; (with_reducible refine (laws_heldBuddy.calls kj126 t330 _ _ t354 _ _ t355 1 t375 _ ?side1 ?side2 ?side3 ?side4 A184.out).mono ?_); (case side1 => repeat (first | exact (Kd.R_reads' p4'.out).2.2 | (with_reducible refine cA ?_ _) | (with_reducible refine cN ?_ _) | (with_reducible refine cD ?_))); (case side2 => exact (Kd.R_reads' p4'.out).2.1); (case side3 => repeat (first | exact (Kd.R_reads' p5'.out).2.2 | (with_reducible refine cA ?_ _) | (with_reducible refine cN ?_ _) | (with_reducible refine cD ?_))); (case side4 => exact (Kd.R_reads' p5'.out).2.1); rintro e w204 ⟨rfl, hb⟩; refine ⟨_, rfl, ?_⟩; replace p0' := xK p0'.out hb; replace p1' := xK p1'.out hb; replace p2' := xK p2'.out hb; replace p3' := xK p3'.out hb; replace p4' := xK p4'.out hb; replace p5' := xK p5'.out hb; replace p6' := xK p6'.out hb; replace p7' := xK p7'.out hb; replace BK303 := yK BK303.out hb; replace BK321 := yK BK321.out hb; replace BK329 := yK BK329.out hb; replace BK339 := yK BK339.out hb; replace BK373 := yK BK373.out hb; replace HB := aM (zT (zH HB.out) hb); (try clear hb)))
                go_ret
                exact ⟨by first | rfl | (simp [errW_none, errW_some] <;> rfl) | (simp [*, errW_none, errW_some] <;> rfl), zH HB.out⟩
          ·rw [if_neg c124] at H
           have c124b0 : (t356 == t353) = false := beq_eq_false_iff_ne.mpr c124
           have c124b1 : (t356 != t353) = true := bne_iff_ne.mpr c124
           obtain rfl := Option.some.inj H
           have hnb205 := NB339_303.out
           have hnc205 := NB303_339.out
           have hnb206 := NB339_321.out
           have hnc206 := NB321_339.out
           have hnb207 := NB339_329.out
           have hnc207 := NB329_339.out
           have hcz208_0 : wc.cell? ⟨gb339, 0, none⟩ = some (.int .i64 t330) := yc BK339.out 0
           have hcz208_1 : wc.cell? ⟨gb339, 1, none⟩ = some (.slice Ao40 t331.length co40) := yc BK339.out 1
           have hcz208_2 : wc.cell? ⟨gb339, 2, none⟩ = some (.slice Ao41 t334.length co41) := yc BK339.out 2
           have hfz208_0 := yZ BK339.out 0
           have hfz208_1 := yZ BK339.out 1
           have hfz208_2 := yZ BK339.out 2
           go_wp2_with (first | ((with_reducible refine gate_callee (f := 13) rfl ?_); refine goesL_ (some 83) rfl rfl Try.func13 (by kernel_rfl) rfl #[.agg #[.int .i64 t330, .slice Ao40 t331.length co40, .slice Ao41 t334.length co41], .int .i64 1] rfl (by (try simp only [List.map_toArray, List.map_cons, List.map_nil]); first | done | rfl | (simp only [List.length_drop, List.length_take]; rfl)) ?_; (with_reducible refine (laws_markBuddy.calls kj73 t330 (fun k_ => some k_ = oB Ao40 t331.length co40) (.slice Ao40 t331.length co40) t331 (fun k_ => some k_ = oB Ao41 t334.length co41) (.slice Ao41 t334.length co41) t334 1 t353 t354 t355 w _ ?side1 ?side2 ?side3 ?side4 ?side5 A114.out).mono ?_); (case side1 => repeat (first | (with_reducible first | exact HB.out | apply zA | apply zN | apply zD | refine zS ?_ GE303.out | refine zS ?_ GE321.out | refine zS ?_ GE329.out | refine zS ?_ GE339.out) | exact HB.out)); (case side2 => exact Kd.R_tight rfl p4'.out); (case side3 => exact fun k_ e_ => (p4'.out.1 k_ e_.symm).2.2.2.2); (case side4 => exact Kd.R_tight rfl p5'.out); (case side5 => exact fun k_ e_ => (p5'.out.1 k_ e_.symm).2.2.2.2); rintro e w209 ⟨rfl, hy0, hy1, hb, hkp⟩; refine ⟨_, rfl, ?_⟩; replace p0' := kB p0'.out hkp (fun k_ hk_ hs_ => Or.elim hs_ (fun e_ => (hk_.2.2.2.1) e_) (fun e_ => (hk_.2.2.2.2) e_)); replace p1' := kB p1'.out hkp (fun k_ hk_ hs_ => Or.elim hs_ (fun e_ => (hk_.2.2.2.1) e_) (fun e_ => (hk_.2.2.2.2) e_)); replace p2' := kB p2'.out hkp (fun k_ hk_ hs_ => Or.elim hs_ (fun e_ => (hk_.2.2.2.1) e_) (fun e_ => (hk_.2.2.2.2) e_)); replace p3' := kB p3'.out hkp (fun k_ hk_ hs_ => Or.elim hs_ (fun e_ => (hk_.2.2.2.1) e_) (fun e_ => (hk_.2.2.2.2) e_)); replace BK303 := aM (blk_kept BK303.out hkp (fun hs_ => Or.elim hs_ (fun e_ => (fun e_ => (Kd.R_ne p4'.out BK303.out (by decide)) e_) e_) (fun e_ => (fun e_ => (Kd.R_ne p5'.out BK303.out (by decide)) e_) e_))); replace BK321 := aM (blk_kept BK321.out hkp (fun hs_ => Or.elim hs_ (fun e_ => (fun e_ => (Kd.R_ne p4'.out BK321.out (by decide)) e_) e_) (fun e_ => (fun e_ => (Kd.R_ne p5'.out BK321.out (by decide)) e_) e_))); replace BK329 := aM (blk_kept BK329.out hkp (fun hs_ => Or.elim hs_ (fun e_ => (fun e_ => (Kd.R_ne p4'.out BK329.out (by decide)) e_) e_) (fun e_ => (fun e_ => (Kd.R_ne p5'.out BK329.out (by decide)) e_) e_))); replace BK339 := aM (blk_kept BK339.out hkp (fun hs_ => Or.elim hs_ (fun e_ => (fun e_ => (Kd.R_ne p4'.out BK339.out (by decide)) e_) e_) (fun e_ => (fun e_ => (Kd.R_ne p5'.out BK339.out (by decide)) e_) e_))); replace p4' := aM (Kd.R_reok rfl hy0 (fun k_ e_ => p4'.out.1 k_ e_)); replace p5' := aM (Kd.R_reok rfl hy1 (fun k_ e_ => p5'.out.1 k_ e_)); replace HB := aM (hb); (try clear hb); (try clear hkp); (try clear hy0); (try clear hy1); have hcz210_0 : w209.cell? ⟨gb339, 0, none⟩ = some (.int .i64 t330) := yc BK339.out 0; have hcz210_1 : w209.cell? ⟨gb339, 1, none⟩ = some (.slice Ao40 t331.length co40) := yc BK339.out 1; have hcz210_2 : w209.cell? ⟨gb339, 2, none⟩ = some (.slice Ao41 t334.length co41) := yc BK339.out 2; have hfz210_0 := yZ BK339.out 0; have hfz210_1 := yZ BK339.out 1; have hfz210_2 := yZ BK339.out 2) | ((with_reducible refine gate_callee (f := 14) rfl ?_); refine goesL_ (some 86) rfl rfl Try.func14 (by kernel_rfl) rfl #[.agg #[.int .i64 t330, .slice Ao40 t354.length co40, .slice Ao41 t355.length co41], .int .i64 1] rfl (by (try simp only [List.map_toArray, List.map_cons, List.map_nil]); first | done | (rw [show t354.length = t331.length from (Kd.R_reads' p4'.out).1.symm, show t355.length = t334.length from (Kd.R_reads' p5'.out).1.symm] <;> rfl) | rfl | (simp only [List.length_drop, List.length_take]; rfl)) ?_; (with_reducible refine (laws_heldBuddy.calls kj73 t330 _ _ t354 _ _ t355 1 t356 _ ?side1 ?side2 ?side3 ?side4 A115.out).mono ?_); (case side1 => repeat (first | exact (Kd.R_reads' p4'.out).2.2 | (with_reducible refine cA ?_ _) | (with_reducible refine cN ?_ _) | (with_reducible refine cD ?_))); (case side2 => rw [show t354.length = t331.length from (Kd.R_reads' p4'.out).1.symm]; exact (Kd.R_reads' p4'.out).2.1); (case side3 => repeat (first | exact (Kd.R_reads' p5'.out).2.2 | (with_reducible refine cA ?_ _) | (with_reducible refine cN ?_ _) | (with_reducible refine cD ?_))); (case side4 => rw [show t355.length = t334.length from (Kd.R_reads' p5'.out).1.symm]; exact (Kd.R_reads' p5'.out).2.1); rintro e w211 ⟨rfl, hb⟩; refine ⟨_, rfl, ?_⟩; replace p0' := xK p0'.out hb; replace p1' := xK p1'.out hb; replace p2' := xK p2'.out hb; replace p3' := xK p3'.out hb; replace p4' := xK p4'.out hb; replace p5' := xK p5'.out hb; replace BK303 := yK BK303.out hb; replace BK321 := yK BK321.out hb; replace BK329 := yK BK329.out hb; replace BK339 := yK BK339.out hb; replace HB := aM (zT (zH HB.out) hb); (try clear hb)))
           go_ret
           exact ⟨by first | rfl | (simp [errW_none, errW_some] <;> rfl) | (simp [*, errW_none, errW_some] <;> rfl), zH HB.out⟩
     ·replace c72 := Bool.eq_false_iff.mpr c72
      subst c72
      have H1 : (some false) = some r := by rw [if_neg (show ¬ (false = true) by decide)] at H; exact H
      clear H
      have H := H1
      clear H1
      exact absurd (H.trans (congrArg some HR_.out)) (by decide)
def okS80 (x : S80) : Prop := (Lit.int .i64 x.f0).wf = true ∧ (Lit.int .i64 x.f1).wf = true
/-- The one pure statement of laws_FnExactTakeBlock. -/
def laws_FnExactTakeBlock.PureG : Prop := ∀ (a0_0 : Int) (l0_1 : List (S80)) (l0_2 : List (S80)) (a1 : Int), (Lit.int .i64 a0_0).wf = true → (l0_1.length ≤ maxLen ∧ ∀ x_ ∈ l0_1, okS80 x_) → (l0_2.length ≤ maxLen ∧ ∀ x_ ∈ l0_2, okS80 x_) → (Lit.int .i64 a1).wf = true → ∃ k, laws_FnExactTakeBlock.f k a0_0 l0_1 l0_2 a1 = some true

end Go.Proofs.Ytbjcioihomeikaa.PFnExactTakeBlock
