/- The walks of FnExactGiveBlock: Go's calls come to what the Lean functions beside them say; no condition. -/
import Derived.Test.YtbjcioihomeikaaQFnExactGiveBlockx0
import Derived.Test.YtbjcioihomeikaaQFnExactGiveBlockx2
import Derived.Test.YtbjcioihomeikaaQFnExactGiveBlockx6
import Derived.Test.YtbjcioihomeikaaQFnExactGiveBlockx7
import Derived.Test.YtbjcioihomeikaaQFnExactGiveBlockx11
import Derived.Test.YtbjcioihomeikaaQFnExactGiveBlockx12
namespace Go.Proofs.Ytbjcioihomeikaa.PFnExactGiveBlock
open Go.RowKit Go.Proofs.YtbjcioihomeikaaW.PrintWords Go.Proofs.YtbjcioihomeikaaW.PrintLast Go.Proofs.YtbjcioihomeikaaW.PrintMore
attribute [local go_sem] max2_int min2_int max_two min_two max_three min_three max_four min_four   -- for this text's walks alone
set_option linter.unusedVariables false
set_option linter.unusedSimpArgs false
set_option maxRecDepth 100000

/-! ### laws_FnExactGiveBlock: function 3 -/
mutual
def laws_FnExactGiveBlock.j0 : Nat → Int → Bool → Bool → Bool → Int → List (S80) → List (S80) → Int → List (S45) → List (S45) → Int → List (S45) → List (S45) → Int → List (S45) → List (S45) → Option (Bool)
 | 0, _, _, _, _, _, _, _, _, _, _, _, _, _, _, _, _ => none
 | k + 1, x1, x7, x10, x44, x318000, x318001, x318002, x335000, x335001, x335002, x343000, x343001, x343002, x352000, x352001, x352002 => if x44 = true then (some false) else ((laws_toBuddy.f k x318000 x318001 x318002).bind fun bt353 => ((laws_eqBuddy.f k x343000 x343001 x343002 bt353.1 bt353.2.1 bt353.2.2).bind fun t360 => (if t360 = true then ((laws_markBuddy.f k x343000 x343001 x343002 1).bind fun bt361 => (if bt361.1 < 0 then (laws_FnExactGiveBlock.j1 k x1 x7 true x318000 x318001 x318002 x335000 x335001 x335002 x352000 x352001 x352002) else ((laws_eqBuddy.f k x352000 x352001 x352002 x335000 x335001 x335002).bind fun t364 => (if t364 = true then (laws_FnExactGiveBlock.j1 k x1 x7 (x10 != x7) x318000 x318001 x318002 x335000 x335001 x335002 x352000 x352001 x352002) else (laws_FnExactGiveBlock.j1 k x1 x7 true x318000 x318001 x318002 x335000 x335001 x335002 x352000 x352001 x352002))))) else (some false))))
def laws_FnExactGiveBlock.j1 : Nat → Int → Bool → Bool → Int → List (S80) → List (S80) → Int → List (S45) → List (S45) → Int → List (S45) → List (S45) → Option (Bool)
 | 0, _, _, _, _, _, _, _, _, _, _, _, _ => none
 | k + 1, x1, x7, x65, x318000, x318001, x318002, x335000, x335001, x335002, x352000, x352001, x352002 => if x65 = true then (some false) else ((laws_markBuddy.f k x352000 x352001 x352002 1).bind fun bt365 => ((laws_heldBuddy.f k x352000 bt365.2.1 bt365.2.2 1).bind fun t368 => (if t368 < 0 then (some false) else (if t368 = bt365.1 then ((laws_toBuddy.f k x318000 x318001 x318002).bind fun bt369 => ((impl_GiveBlock.f k bt369.1 bt369.2.1 bt369.2.2 x1).bind fun bt376 => ((laws_eqBuddy.f k bt376.1 bt376.2.1 bt376.2.2.1 x335000 x335001 x335002).bind fun t385 => (if t385 = true then (laws_FnExactGiveBlock.j2 k bt365.1 (bt376.2.2.2 != x7) x352000 bt365.2.1 bt365.2.2) else (laws_FnExactGiveBlock.j2 k bt365.1 true x352000 bt365.2.1 bt365.2.2))))) else (some false)))))
def laws_FnExactGiveBlock.j2 : Nat → Int → Bool → Int → List (S45) → List (S45) → Option (Bool)
 | 0, _, _, _, _, _ => none
 | k + 1, x12, x92, x352000, x352001, x352002 => if x92 = true then (some false) else ((laws_heldBuddy.f k x352000 x352001 x352002 1).bind fun t386 => (if t386 < 0 then (some false) else (if t386 = x12 then (some true) else (some false))))
end
def laws_FnExactGiveBlock.f (k : Nat) (a0_0 : Int) (l0_1 : List (S80)) (l0_2 : List (S80)) (a1 : Int) : Option (Bool) := (laws_szBuddy.f a0_0 l0_1 l0_2 1048576).bind fun t318 => (if t318 < 0 then (some true) else ((laws_toBuddy.f k a0_0 l0_1 l0_2).bind fun bt319 => ((spec_GiveBlock.f k bt319.1 bt319.2.1 bt319.2.2 a1).bind fun bt326 => ((laws_toBuddy.f k a0_0 l0_1 l0_2).bind fun bt335 => ((impl_GiveBlock.f k bt335.1 bt335.2.1 bt335.2.2 a1).bind fun bt343 => ((laws_eqBuddy.f k bt343.1 bt343.2.1 bt343.2.2.1 bt326.1 bt326.2.1 bt326.2.2.1).bind fun t352 => (if t352 = true then (laws_FnExactGiveBlock.j0 k a1 bt326.2.2.2 bt343.2.2.2 (bt343.2.2.2 != bt326.2.2.2) a0_0 l0_1 l0_2 bt326.1 bt326.2.1 bt326.2.2.1 bt335.1 bt335.2.1 bt335.2.2 bt343.1 bt343.2.1 bt343.2.2.1) else (laws_FnExactGiveBlock.j0 k a1 bt326.2.2.2 bt343.2.2.2 true a0_0 l0_1 l0_2 bt326.1 bt326.2.1 bt326.2.2.1 bt335.1 bt335.2.1 bt335.2.2 bt343.1 bt343.2.1 bt343.2.2.1))))))))
theorem laws_FnExactGiveBlock.mono_l : ∀ k, (∀ y0 y1 y2 y3 y4 y5 y6 y7 y8 y9 y10 y11 y12 y13 y14 y15, LeO (laws_FnExactGiveBlock.j0 k y0 y1 y2 y3 y4 y5 y6 y7 y8 y9 y10 y11 y12 y13 y14 y15) (laws_FnExactGiveBlock.j0 (k + 1) y0 y1 y2 y3 y4 y5 y6 y7 y8 y9 y10 y11 y12 y13 y14 y15)) ∧ (∀ y0 y1 y2 y3 y4 y5 y6 y7 y8 y9 y10 y11, LeO (laws_FnExactGiveBlock.j1 k y0 y1 y2 y3 y4 y5 y6 y7 y8 y9 y10 y11) (laws_FnExactGiveBlock.j1 (k + 1) y0 y1 y2 y3 y4 y5 y6 y7 y8 y9 y10 y11)) ∧ (∀ y0 y1 y2 y3 y4, LeO (laws_FnExactGiveBlock.j2 k y0 y1 y2 y3 y4) (laws_FnExactGiveBlock.j2 (k + 1) y0 y1 y2 y3 y4))
 | 0 => ⟨fun _ _ _ _ _ _ _ _ _ _ _ _ _ _ _ _ r h => by simp [laws_FnExactGiveBlock.j0] at h, fun _ _ _ _ _ _ _ _ _ _ _ _ r h => by simp [laws_FnExactGiveBlock.j1] at h, fun _ _ _ _ _ r h => by simp [laws_FnExactGiveBlock.j2] at h⟩
 | k + 1 => by
  obtain ⟨ih0, ih1, ih2⟩ := laws_FnExactGiveBlock.mono_l k
  refine ⟨?_, ?_, ?_⟩
  ·intro y0 y1 y2 y3 y4 y5 y6 y7 y8 y9 y10 y11 y12 y13 y14 y15
   unfold laws_FnExactGiveBlock.j0
   repeat' first
   | (with_reducible exact ih0 _ _ _ _ _ _ _ _ _ _ _ _ _ _ _ _)
   | (with_reducible exact ih1 _ _ _ _ _ _ _ _ _ _ _ _)
   | (with_reducible exact ih2 _ _ _ _ _)
   | (with_reducible exact impl_GiveBlock.mono _ _ _ _ _)
   | (with_reducible exact laws_eqBuddy.mono _ _ _ _ _ _ _)
   | (with_reducible exact laws_heldBuddy.mono _ _ _ _ _)
   | (with_reducible exact laws_markBuddy.mono _ _ _ _ _)
   | (with_reducible exact laws_toBuddy.mono _ _ _ _)
   | (with_reducible exact spec_GiveBlock.mono _ _ _ _ _)
   | (with_reducible exact LeO.refl _)
   | (with_reducible exact LeO.none _)
   | (with_reducible refine LeO.ite ?_ ?_)
   | (with_reducible refine LeO.bind ?_ (fun _ => ?_))
   | exact ih0 _ _ _ _ _ _ _ _ _ _ _ _ _ _ _ _
   | exact ih1 _ _ _ _ _ _ _ _ _ _ _ _
   | exact ih2 _ _ _ _ _
   | exact impl_GiveBlock.mono _ _ _ _ _
   | exact laws_eqBuddy.mono _ _ _ _ _ _ _
   | exact laws_heldBuddy.mono _ _ _ _ _
   | exact laws_markBuddy.mono _ _ _ _ _
   | exact laws_toBuddy.mono _ _ _ _
   | exact spec_GiveBlock.mono _ _ _ _ _
   | exact LeO.none _
   | refine LeO.ite ?_ ?_
   | refine LeO.bind ?_ (fun _ => ?_)
  ·intro y0 y1 y2 y3 y4 y5 y6 y7 y8 y9 y10 y11
   unfold laws_FnExactGiveBlock.j1
   repeat' first
   | (with_reducible exact ih0 _ _ _ _ _ _ _ _ _ _ _ _ _ _ _ _)
   | (with_reducible exact ih1 _ _ _ _ _ _ _ _ _ _ _ _)
   | (with_reducible exact ih2 _ _ _ _ _)
   | (with_reducible exact impl_GiveBlock.mono _ _ _ _ _)
   | (with_reducible exact laws_eqBuddy.mono _ _ _ _ _ _ _)
   | (with_reducible exact laws_heldBuddy.mono _ _ _ _ _)
   | (with_reducible exact laws_markBuddy.mono _ _ _ _ _)
   | (with_reducible exact laws_toBuddy.mono _ _ _ _)
   | (with_reducible exact spec_GiveBlock.mono _ _ _ _ _)
   | (with_reducible exact LeO.refl _)
   | (with_reducible exact LeO.none _)
   | (with_reducible refine LeO.ite ?_ ?_)
   | (with_reducible refine LeO.bind ?_ (fun _ => ?_))
   | exact ih0 _ _ _ _ _ _ _ _ _ _ _ _ _ _ _ _
   | exact ih1 _ _ _ _ _ _ _ _ _ _ _ _
   | exact ih2 _ _ _ _ _
   | exact impl_GiveBlock.mono _ _ _ _ _
   | exact laws_eqBuddy.mono _ _ _ _ _ _ _
   | exact laws_heldBuddy.mono _ _ _ _ _
   | exact laws_markBuddy.mono _ _ _ _ _
   | exact laws_toBuddy.mono _ _ _ _
   | exact spec_GiveBlock.mono _ _ _ _ _
   | exact LeO.none _
   | refine LeO.ite ?_ ?_
   | refine LeO.bind ?_ (fun _ => ?_)
  ·intro y0 y1 y2 y3 y4
   unfold laws_FnExactGiveBlock.j2
   repeat' first
   | (with_reducible exact ih0 _ _ _ _ _ _ _ _ _ _ _ _ _ _ _ _)
   | (with_reducible exact ih1 _ _ _ _ _ _ _ _ _ _ _ _)
   | (with_reducible exact ih2 _ _ _ _ _)
   | (with_reducible exact impl_GiveBlock.mono _ _ _ _ _)
   | (with_reducible exact laws_eqBuddy.mono _ _ _ _ _ _ _)
   | (with_reducible exact laws_heldBuddy.mono _ _ _ _ _)
   | (with_reducible exact laws_markBuddy.mono _ _ _ _ _)
   | (with_reducible exact laws_toBuddy.mono _ _ _ _)
   | (with_reducible exact spec_GiveBlock.mono _ _ _ _ _)
   | (with_reducible exact LeO.refl _)
   | (with_reducible exact LeO.none _)
   | (with_reducible refine LeO.ite ?_ ?_)
   | (with_reducible refine LeO.bind ?_ (fun _ => ?_))
   | exact ih0 _ _ _ _ _ _ _ _ _ _ _ _ _ _ _ _
   | exact ih1 _ _ _ _ _ _ _ _ _ _ _ _
   | exact ih2 _ _ _ _ _
   | exact impl_GiveBlock.mono _ _ _ _ _
   | exact laws_eqBuddy.mono _ _ _ _ _ _ _
   | exact laws_heldBuddy.mono _ _ _ _ _
   | exact laws_markBuddy.mono _ _ _ _ _
   | exact laws_toBuddy.mono _ _ _ _
   | exact spec_GiveBlock.mono _ _ _ _ _
   | exact LeO.none _
   | refine LeO.ite ?_ ?_
   | refine LeO.bind ?_ (fun _ => ?_)
theorem laws_FnExactGiveBlock.mono : ∀ a0 a1 a2 a3 k, LeO (laws_FnExactGiveBlock.f k a0 a1 a2 a3) (laws_FnExactGiveBlock.f (k + 1) a0 a1 a2 a3) := by
 intro a0 a1 a2 a3 k
 obtain ⟨ih0, ih1, ih2⟩ := laws_FnExactGiveBlock.mono_l k
 unfold laws_FnExactGiveBlock.f
 repeat' first
   | (with_reducible exact ih0 _ _ _ _ _ _ _ _ _ _ _ _ _ _ _ _)
   | (with_reducible exact ih1 _ _ _ _ _ _ _ _ _ _ _ _)
   | (with_reducible exact ih2 _ _ _ _ _)
   | (with_reducible exact impl_GiveBlock.mono _ _ _ _ _)
   | (with_reducible exact laws_eqBuddy.mono _ _ _ _ _ _ _)
   | (with_reducible exact laws_heldBuddy.mono _ _ _ _ _)
   | (with_reducible exact laws_markBuddy.mono _ _ _ _ _)
   | (with_reducible exact laws_toBuddy.mono _ _ _ _)
   | (with_reducible exact spec_GiveBlock.mono _ _ _ _ _)
   | (with_reducible exact LeO.refl _)
   | (with_reducible exact LeO.none _)
   | (with_reducible refine LeO.ite ?_ ?_)
   | (with_reducible refine LeO.bind ?_ (fun _ => ?_))
   | exact ih0 _ _ _ _ _ _ _ _ _ _ _ _ _ _ _ _
   | exact ih1 _ _ _ _ _ _ _ _ _ _ _ _
   | exact ih2 _ _ _ _ _
   | exact impl_GiveBlock.mono _ _ _ _ _
   | exact laws_eqBuddy.mono _ _ _ _ _ _ _
   | exact laws_heldBuddy.mono _ _ _ _ _
   | exact laws_markBuddy.mono _ _ _ _ _
   | exact laws_toBuddy.mono _ _ _ _
   | exact spec_GiveBlock.mono _ _ _ _ _
   | exact LeO.none _
   | refine LeO.ite ?_ ?_
   | refine LeO.bind ?_ (fun _ => ?_)
set_option maxHeartbeats 8000000 in
set_option maxRecDepth 100000 in
theorem laws_FnExactGiveBlock.calls (k : Nat) (a0_0 : Int) (A0_1 : Option Addr) (c0_1 : Nat) (l0_1 : List (S80)) (A0_2 : Option Addr) (c0_2 : Nat) (l0_2 : List (S80)) (a1 : Int) (r : Bool) (w : World) (hr0_1 : Kd.C k80 w A0_1 l0_1.length l0_1) (hc0_1 : l0_1.length ≤ c0_1) (hr0_2 : Kd.C k80 w A0_2 l0_2.length l0_2) (hc0_2 : l0_2.length ≤ c0_2) (h : laws_FnExactGiveBlock.f k a0_0 l0_1 l0_2 a1 = some r) (hr_ : r = true := by rfl) :
  Calls Try.prog 3 #[.agg #[.int .i64 a0_0, .slice A0_1 l0_1.length c0_1, .slice A0_2 l0_2.length c0_2], .int .i64 a1] w fun e w' => e = .returned (.bool r) ∧ Below w.heap.size w w' := by
 have HR_ := aM hr_
 clear hr_
 have hu24 := Try.underlying24
 have hu28 := Try.underlying28
 have HR0_1 := aM hr0_1
 have HC0_1 := aM hc0_1
 clear hr0_1 hc0_1
 have HR0_2 := aM hr0_2
 have HC0_2 := aM hc0_2
 clear hr0_2 hc0_2
 have HB := aM (Below.refl w.heap.size w)
 have H : ((laws_szBuddy.f a0_0 l0_1 l0_2 1048576).bind fun t318 => (if t318 < 0 then (some true) else ((laws_toBuddy.f k a0_0 l0_1 l0_2).bind fun bt319 => ((spec_GiveBlock.f k bt319.1 bt319.2.1 bt319.2.2 a1).bind fun bt326 => ((laws_toBuddy.f k a0_0 l0_1 l0_2).bind fun bt335 => ((impl_GiveBlock.f k bt335.1 bt335.2.1 bt335.2.2 a1).bind fun bt343 => ((laws_eqBuddy.f k bt343.1 bt343.2.1 bt343.2.2.1 bt326.1 bt326.2.1 bt326.2.2.1).bind fun t352 => (if t352 = true then (laws_FnExactGiveBlock.j0 k a1 bt326.2.2.2 bt343.2.2.2 (bt343.2.2.2 != bt326.2.2.2) a0_0 l0_1 l0_2 bt326.1 bt326.2.1 bt326.2.2.1 bt335.1 bt335.2.1 bt335.2.2 bt343.1 bt343.2.1 bt343.2.2.1) else (laws_FnExactGiveBlock.j0 k a1 bt326.2.2.2 bt343.2.2.2 true a0_0 l0_1 l0_2 bt326.1 bt326.2.1 bt326.2.2.1 bt335.1 bt335.2.1 bt335.2.2 bt343.1 bt343.2.1 bt343.2.2.1))))))))) = some r := h
 clear h
 replace H := Option.bind_eq_some_iff.mp H
 obtain ⟨t318, A30, H⟩ := H
 replace H : (if t318 < 0 then (some true) else ((laws_toBuddy.f k a0_0 l0_1 l0_2).bind fun bt319 => ((spec_GiveBlock.f k bt319.1 bt319.2.1 bt319.2.2 a1).bind fun bt326 => ((laws_toBuddy.f k a0_0 l0_1 l0_2).bind fun bt335 => ((impl_GiveBlock.f k bt335.1 bt335.2.1 bt335.2.2 a1).bind fun bt343 => ((laws_eqBuddy.f k bt343.1 bt343.2.1 bt343.2.2.1 bt326.1 bt326.2.1 bt326.2.2.1).bind fun t352 => (if t352 = true then (laws_FnExactGiveBlock.j0 k a1 bt326.2.2.2 bt343.2.2.2 (bt343.2.2.2 != bt326.2.2.2) a0_0 l0_1 l0_2 bt326.1 bt326.2.1 bt326.2.2.1 bt335.1 bt335.2.1 bt335.2.2 bt343.1 bt343.2.1 bt343.2.2.1) else (laws_FnExactGiveBlock.j0 k a1 bt326.2.2.2 bt343.2.2.2 true a0_0 l0_1 l0_2 bt326.1 bt326.2.1 bt326.2.2.1 bt335.1 bt335.2.1 bt335.2.2 bt343.1 bt343.2.1 bt343.2.2.1)))))))) = some r := H
 have A3 := aM A30
 clear A30
 by_cases c4 : t318 < 0
 ·rw [if_pos c4] at H
  have c4b0 : decide (t318 < 0) = true := decide_eq_true c4
  clear c4
  obtain rfl := Option.some.inj H
  go_enter Try.func3, Try.ntmps3
  go_wp2_with (first | ((with_reducible refine gate_dst (N := 2) rfl ?_); refine box_event ?hg (N := 2) ?hd (cs := #[.int .i64 a0_0, .slice A0_1 l0_1.length c0_1, .slice A0_2 l0_2.length c0_2]) (t := 24) ?hr ?_; (case hd => rfl); (case hg => rfl); (case hr => first | (go_simp; done) | (go_simp; rfl)); intro gb317 hg w5 hbox hb; have BK317 := aM (hbox); have GW317 := aM ((by rw [hg]; exact (zZ (zH HB.out)) : w.heap.size ≤ gb317)); have GE317 := aM ((by rw [hg]; exact (zZ (zH HB.out)) : w.heap.size ≤ gb317)); replace HB := aM (zT (zH HB.out) hb); clear hb hbox hg; have hcz6_0 : w5.cell? ⟨gb317, 0, none⟩ = some (.int .i64 a0_0) := yc BK317.out 0; have hcz6_1 : w5.cell? ⟨gb317, 1, none⟩ = some (.slice A0_1 l0_1.length c0_1) := yc BK317.out 1; have hcz6_2 : w5.cell? ⟨gb317, 2, none⟩ = some (.slice A0_2 l0_2.length c0_2) := yc BK317.out 2; have hfz6_0 := yZ BK317.out 0; have hfz6_1 := yZ BK317.out 1; have hfz6_2 := yZ BK317.out 2) | ((with_reducible refine gate_callee (f := 8) rfl ?_); refine goesL_ (some 18) rfl rfl Try.func8 (by kernel_rfl) rfl #[.agg #[.int .i64 a0_0, .slice A0_1 l0_1.length c0_1, .slice A0_2 l0_2.length c0_2], .int .i64 1048576] rfl (by (try simp only [List.map_toArray, List.map_cons, List.map_nil]); first | done | rfl | (simp only [List.length_drop, List.length_take]; rfl)) ?_; (with_reducible refine (laws_szBuddy.calls a0_0 _ _ l0_1 _ _ l0_2 1048576 t318 _ ?side1 ?side2 ?side3 ?side4 A3.out).mono ?_); (case side1 => exact cK HR0_1.out HB.out); (case side2 => exact HC0_1.out); (case side3 => exact cK HR0_2.out HB.out); (case side4 => exact HC0_2.out); rintro e w7 ⟨rfl, hb⟩; refine ⟨_, rfl, ?_⟩; replace BK317 := yK BK317.out hb; replace HB := aM (zT (zH HB.out) hb); (try clear hb)))
  go_ret
  exact ⟨by first | rfl | (simp [errW_none, errW_some] <;> rfl) | (simp [*, errW_none, errW_some] <;> rfl), zH HB.out⟩
 ·rw [if_neg c4] at H
  have c4b0 : decide (t318 < 0) = false := decide_eq_false c4
  clear c4
  replace H := Option.bind_eq_some_iff.mp H
  obtain ⟨⟨t319, t320, t323⟩, A80, H⟩ := H
  replace H : ((spec_GiveBlock.f k t319 t320 t323 a1).bind fun bt326 => ((laws_toBuddy.f k a0_0 l0_1 l0_2).bind fun bt335 => ((impl_GiveBlock.f k bt335.1 bt335.2.1 bt335.2.2 a1).bind fun bt343 => ((laws_eqBuddy.f k bt343.1 bt343.2.1 bt343.2.2.1 bt326.1 bt326.2.1 bt326.2.2.1).bind fun t352 => (if t352 = true then (laws_FnExactGiveBlock.j0 k a1 bt326.2.2.2 bt343.2.2.2 (bt343.2.2.2 != bt326.2.2.2) a0_0 l0_1 l0_2 bt326.1 bt326.2.1 bt326.2.2.1 bt335.1 bt335.2.1 bt335.2.2 bt343.1 bt343.2.1 bt343.2.2.1) else (laws_FnExactGiveBlock.j0 k a1 bt326.2.2.2 bt343.2.2.2 true a0_0 l0_1 l0_2 bt326.1 bt326.2.1 bt326.2.2.1 bt335.1 bt335.2.1 bt335.2.2 bt343.1 bt343.2.1 bt343.2.2.1)))))) = some r := H
  have A8 := aM A80
  clear A80
  replace H := Option.bind_eq_some_iff.mp H
  obtain ⟨⟨t326, t327, t330, t333⟩, A90, H⟩ := H
  replace H : ((laws_toBuddy.f k a0_0 l0_1 l0_2).bind fun bt335 => ((impl_GiveBlock.f k bt335.1 bt335.2.1 bt335.2.2 a1).bind fun bt343 => ((laws_eqBuddy.f k bt343.1 bt343.2.1 bt343.2.2.1 t326 t327 t330).bind fun t352 => (if t352 = true then (laws_FnExactGiveBlock.j0 k a1 t333 bt343.2.2.2 (bt343.2.2.2 != t333) a0_0 l0_1 l0_2 t326 t327 t330 bt335.1 bt335.2.1 bt335.2.2 bt343.1 bt343.2.1 bt343.2.2.1) else (laws_FnExactGiveBlock.j0 k a1 t333 bt343.2.2.2 true a0_0 l0_1 l0_2 t326 t327 t330 bt335.1 bt335.2.1 bt335.2.2 bt343.1 bt343.2.1 bt343.2.2.1))))) = some r := H
  have A9 := aM A90
  clear A90
  replace H := Option.bind_eq_some_iff.mp H
  obtain ⟨⟨t335, t336, t339⟩, A100, H⟩ := H
  replace H : ((impl_GiveBlock.f k t335 t336 t339 a1).bind fun bt343 => ((laws_eqBuddy.f k bt343.1 bt343.2.1 bt343.2.2.1 t326 t327 t330).bind fun t352 => (if t352 = true then (laws_FnExactGiveBlock.j0 k a1 t333 bt343.2.2.2 (bt343.2.2.2 != t333) a0_0 l0_1 l0_2 t326 t327 t330 t335 t336 t339 bt343.1 bt343.2.1 bt343.2.2.1) else (laws_FnExactGiveBlock.j0 k a1 t333 bt343.2.2.2 true a0_0 l0_1 l0_2 t326 t327 t330 t335 t336 t339 bt343.1 bt343.2.1 bt343.2.2.1)))) = some r := H
  have A10 := aM A100
  clear A100
  replace H := Option.bind_eq_some_iff.mp H
  obtain ⟨⟨t343, t344, t347, t350⟩, A110, H⟩ := H
  replace H : ((laws_eqBuddy.f k t343 t344 t347 t326 t327 t330).bind fun t352 => (if t352 = true then (laws_FnExactGiveBlock.j0 k a1 t333 t350 (t350 != t333) a0_0 l0_1 l0_2 t326 t327 t330 t335 t336 t339 t343 t344 t347) else (laws_FnExactGiveBlock.j0 k a1 t333 t350 true a0_0 l0_1 l0_2 t326 t327 t330 t335 t336 t339 t343 t344 t347))) = some r := H
  have A11 := aM A110
  clear A110
  have HC12 := aM H
  clear H
  go_enter Try.func3, Try.ntmps3
  go_upto_region 8 with (first | ((with_reducible refine gate_dst (N := 2) rfl ?_); refine box_event ?hg (N := 2) ?hd (cs := #[.int .i64 a0_0, .slice A0_1 l0_1.length c0_1, .slice A0_2 l0_2.length c0_2]) (t := 24) ?hr ?_; (case hd => rfl); (case hg => rfl); (case hr => first | (go_simp; done) | (go_simp; rfl)); intro gb317 hg w13 hbox hb; have BK317 := aM (hbox); have GW317 := aM ((by rw [hg]; exact (zZ (zH HB.out)) : w.heap.size ≤ gb317)); have GE317 := aM ((by rw [hg]; exact (zZ (zH HB.out)) : w.heap.size ≤ gb317)); replace HB := aM (zT (zH HB.out) hb); clear hb hbox hg; have hcz14_0 : w13.cell? ⟨gb317, 0, none⟩ = some (.int .i64 a0_0) := yc BK317.out 0; have hcz14_1 : w13.cell? ⟨gb317, 1, none⟩ = some (.slice A0_1 l0_1.length c0_1) := yc BK317.out 1; have hcz14_2 : w13.cell? ⟨gb317, 2, none⟩ = some (.slice A0_2 l0_2.length c0_2) := yc BK317.out 2; have hfz14_0 := yZ BK317.out 0; have hfz14_1 := yZ BK317.out 1; have hfz14_2 := yZ BK317.out 2) | ((with_reducible refine gate_callee (f := 8) rfl ?_); refine goesL_ (some 18) rfl rfl Try.func8 (by kernel_rfl) rfl #[.agg #[.int .i64 a0_0, .slice A0_1 l0_1.length c0_1, .slice A0_2 l0_2.length c0_2], .int .i64 1048576] rfl (by (try simp only [List.map_toArray, List.map_cons, List.map_nil]); first | done | rfl | (simp only [List.length_drop, List.length_take]; rfl)) ?_; (with_reducible refine (laws_szBuddy.calls a0_0 _ _ l0_1 _ _ l0_2 1048576 t318 _ ?side1 ?side2 ?side3 ?side4 A3.out).mono ?_); (case side1 => exact cK HR0_1.out HB.out); (case side2 => exact HC0_1.out); (case side3 => exact cK HR0_2.out HB.out); (case side4 => exact HC0_2.out); rintro e w15 ⟨rfl, hb⟩; refine ⟨_, rfl, ?_⟩; replace BK317 := yK BK317.out hb; replace HB := aM (zT (zH HB.out) hb); (try clear hb); have hcz16_0 : w15.cell? ⟨gb317, 0, none⟩ = some (.int .i64 a0_0) := yc BK317.out 0; have hcz16_1 : w15.cell? ⟨gb317, 1, none⟩ = some (.slice A0_1 l0_1.length c0_1) := yc BK317.out 1; have hcz16_2 : w15.cell? ⟨gb317, 2, none⟩ = some (.slice A0_2 l0_2.length c0_2) := yc BK317.out 2; have hfz16_0 := yZ BK317.out 0; have hfz16_1 := yZ BK317.out 1; have hfz16_2 := yZ BK317.out 2) | ((with_reducible refine gate_callee (f := 10) rfl ?_); refine goesL_ (some 23) rfl rfl Try.func10 (by kernel_rfl) rfl #[.agg #[.int .i64 a0_0, .slice A0_1 l0_1.length c0_1, .slice A0_2 l0_2.length c0_2]] rfl (by (try simp only [List.map_toArray, List.map_cons, List.map_nil]); first | done | rfl | (simp only [List.length_drop, List.length_take]; rfl)) ?_; (with_reducible refine (laws_toBuddy.calls k a0_0 _ _ l0_1 _ _ l0_2 t319 t320 t323 _ ?side1 ?side2 ?side3 ?side4 A8.out).mono ?_); (case side1 => exact cK HR0_1.out HB.out); (case side2 => exact HC0_1.out); (case side3 => exact cK HR0_2.out HB.out); (case side4 => exact HC0_2.out); rintro e w17 ⟨v321, v324, rfl, ho0, ho1, hb⟩; refine ⟨_, rfl, ?_⟩; have HO322 := aM (xL ho0 (zZ (zH HB.out))); have HO325 := aM (xL ho1 (zZ (zH HB.out))); replace BK317 := yK BK317.out hb; replace HB := aM (zT (zH HB.out) hb); (try clear hb); (try clear ho0); (try clear ho1); obtain ⟨Ao18, co18, eo18⟩ := Kd.R_slice HO322.out; subst eo18; obtain ⟨Ao19, co19, eo19⟩ := Kd.R_slice HO325.out; subst eo19) | ((with_reducible refine gate_callee (f := 9) rfl ?_); refine goesL_ (some 25) rfl rfl Try.func9 (by kernel_rfl) rfl #[.agg #[.int .i64 t319, .slice Ao18 t320.length co18, .slice Ao19 t323.length co19], .int .i64 a1] rfl (by (try simp only [List.map_toArray, List.map_cons, List.map_nil]); first | done | rfl | (simp only [List.length_drop, List.length_take]; rfl)) ?_; (with_reducible refine (spec_GiveBlock.calls k t319 _ _ t320 _ _ t323 a1 t326 t327 t330 t333 _ ?side1 ?side2 ?side3 ?side4 A9.out).mono ?_); (case side1 => repeat (first | exact (Kd.R_reads' HO322.out).2.2 | (with_reducible refine cA ?_ _) | (with_reducible refine cN ?_ _) | (with_reducible refine cD ?_))); (case side2 => exact (Kd.R_reads' HO322.out).2.1); (case side3 => repeat (first | exact (Kd.R_reads' HO325.out).2.2 | (with_reducible refine cA ?_ _) | (with_reducible refine cN ?_ _) | (with_reducible refine cD ?_))); (case side4 => exact (Kd.R_reads' HO325.out).2.1); rintro e w20 ⟨v328, v331, rfl, ho0, ho1, hb⟩; refine ⟨_, rfl, ?_⟩; have HO329 := aM (xL (Kd.R_new' (Kd.R_new' ho0 (Kd.R_lt (xH HO322.out))) (Kd.R_lt (xH HO325.out))) (zZ (zH HB.out))); have HO332 := aM (xL (Kd.R_new' (Kd.R_new' ho1 (Kd.R_lt (xH HO322.out))) (Kd.R_lt (xH HO325.out))) (zZ (zH HB.out))); replace HO322 := aM (xM (Kd.R_told (Kd.R_told (Kd.R_old (xH HO322.out) hb) (Kd.R_base ho0)) (Kd.R_base ho1)) (fun _ h_ => h_.1)); replace HO325 := aM (xM (Kd.R_told (Kd.R_told (Kd.R_old (xH HO325.out) hb) (Kd.R_base ho0)) (Kd.R_base ho1)) (fun _ h_ => h_.1)); replace BK317 := yK BK317.out hb; replace HB := aM (zT (zH HB.out) hb); (try clear hb); (try clear ho0); (try clear ho1)) | ((with_reducible refine gate_dst (N := 6) rfl ?_); refine box_event ?hg (N := 6) ?hd (cs := #[.int .i64 0, .slice none 0 0, .slice none 0 0]) (t := 28) ?hr ?_; (case hd => rfl); (case hg => rfl); (case hr => first | (go_simp; done) | (go_simp; rfl)); intro gb334 hg w21 hbox hb; replace HO322 := xK HO322.out hb; replace HO325 := xK HO325.out hb; replace HO329 := xK HO329.out hb; replace HO332 := xK HO332.out hb; have BK334 := aM (hbox); have GW334 := aM ((by rw [hg]; exact (zZ (zH HB.out)) : w.heap.size ≤ gb334)); have GE334 := aM ((by rw [hg]; exact (zZ (zH HB.out)) : w.heap.size ≤ gb334)); replace HB := aM (zT (zH HB.out) hb); have NB317_334 := nL BK317.out hg; have NB334_317 := nR BK317.out hg; replace BK317 := yK BK317.out hb; clear hb hbox hg; have hnb22 := NB334_317.out; have hnc22 := NB317_334.out; have hcz23_0 : w21.cell? ⟨gb334, 0, none⟩ = some (.int .i64 0) := yc BK334.out 0; have hcz23_1 : w21.cell? ⟨gb334, 1, none⟩ = some (.slice none 0 0) := yc BK334.out 1; have hcz23_2 : w21.cell? ⟨gb334, 2, none⟩ = some (.slice none 0 0) := yc BK334.out 2; have hfz23_0 := yZ BK334.out 0; have hfz23_1 := yZ BK334.out 1; have hfz23_2 := yZ BK334.out 2; obtain ⟨Ao24, co24, eo24⟩ := Kd.R_slice HO329.out; subst eo24; obtain ⟨Ao25, co25, eo25⟩ := Kd.R_slice HO332.out; subst eo25; have hcz26_0 : w21.cell? ⟨gb317, 0, none⟩ = some (.int .i64 a0_0) := yc BK317.out 0; have hcz26_1 : w21.cell? ⟨gb317, 1, none⟩ = some (.slice A0_1 l0_1.length c0_1) := yc BK317.out 1; have hcz26_2 : w21.cell? ⟨gb317, 2, none⟩ = some (.slice A0_2 l0_2.length c0_2) := yc BK317.out 2; have hfz26_0 := yZ BK317.out 0; have hfz26_1 := yZ BK317.out 1; have hfz26_2 := yZ BK317.out 2) | ((with_reducible refine gate_callee (f := 10) rfl ?_); refine goesL_ (some 29) rfl rfl Try.func10 (by kernel_rfl) rfl #[.agg #[.int .i64 a0_0, .slice A0_1 l0_1.length c0_1, .slice A0_2 l0_2.length c0_2]] rfl (by (try simp only [List.map_toArray, List.map_cons, List.map_nil]); first | done | rfl | (simp only [List.length_drop, List.length_take]; rfl)) ?_; (with_reducible refine (laws_toBuddy.calls k a0_0 _ _ l0_1 _ _ l0_2 t335 t336 t339 _ ?side1 ?side2 ?side3 ?side4 A10.out).mono ?_); (case side1 => exact cB HR0_1.out (zH HB.out)); (case side2 => exact HC0_1.out); (case side3 => exact cB HR0_2.out (zH HB.out)); (case side4 => exact HC0_2.out); rintro e w27 ⟨v337, v340, rfl, ho0, ho1, hb⟩; refine ⟨_, rfl, ?_⟩; have HO338 := aM (xL (Kd.R_new' (Kd.R_new' (Kd.R_new' (Kd.R_new' ho0 (Kd.R_lt (xH ((x3 HO322.out BK334.out (by decide) (.int .i64 t326) (.slice Ao24 t327.length co24) (.slice Ao25 t330.length co25)))))) (Kd.R_lt (xH ((x3 HO325.out BK334.out (by decide) (.int .i64 t326) (.slice Ao24 t327.length co24) (.slice Ao25 t330.length co25)))))) (Kd.R_lt (xH ((x3 HO329.out BK334.out (by decide) (.int .i64 t326) (.slice Ao24 t327.length co24) (.slice Ao25 t330.length co25)))))) (Kd.R_lt (xH ((x3 HO332.out BK334.out (by decide) (.int .i64 t326) (.slice Ao24 t327.length co24) (.slice Ao25 t330.length co25)))))) (zZ (zH HB.out))); have HO341 := aM (xL (Kd.R_new' (Kd.R_new' (Kd.R_new' (Kd.R_new' ho1 (Kd.R_lt (xH ((x3 HO322.out BK334.out (by decide) (.int .i64 t326) (.slice Ao24 t327.length co24) (.slice Ao25 t330.length co25)))))) (Kd.R_lt (xH ((x3 HO325.out BK334.out (by decide) (.int .i64 t326) (.slice Ao24 t327.length co24) (.slice Ao25 t330.length co25)))))) (Kd.R_lt (xH ((x3 HO329.out BK334.out (by decide) (.int .i64 t326) (.slice Ao24 t327.length co24) (.slice Ao25 t330.length co25)))))) (Kd.R_lt (xH ((x3 HO332.out BK334.out (by decide) (.int .i64 t326) (.slice Ao24 t327.length co24) (.slice Ao25 t330.length co25)))))) (zZ (zH HB.out))); replace HO322 := aM (xM (Kd.R_told (Kd.R_told (Kd.R_old (xH ((x3 HO322.out BK334.out (by decide) (.int .i64 t326) (.slice Ao24 t327.length co24) (.slice Ao25 t330.length co25)))) hb) (Kd.R_base ho0)) (Kd.R_base ho1)) (fun _ h_ => h_.1)); replace HO325 := aM (xM (Kd.R_told (Kd.R_told (Kd.R_old (xH ((x3 HO325.out BK334.out (by decide) (.int .i64 t326) (.slice Ao24 t327.length co24) (.slice Ao25 t330.length co25)))) hb) (Kd.R_base ho0)) (Kd.R_base ho1)) (fun _ h_ => h_.1)); replace HO329 := aM (xM (Kd.R_told (Kd.R_told (Kd.R_old (xH ((x3 HO329.out BK334.out (by decide) (.int .i64 t326) (.slice Ao24 t327.length co24) (.slice Ao25 t330.length co25)))) hb) (Kd.R_base ho0)) (Kd.R_base ho1)) (fun _ h_ => h_.1)); replace HO332 := aM (xM (Kd.R_told (Kd.R_told (Kd.R_old (xH ((x3 HO332.out BK334.out (by decide) (.int .i64 t326) (.slice Ao24 t327.length co24) (.slice Ao25 t330.length co25)))) hb) (Kd.R_base ho0)) (Kd.R_base ho1)) (fun _ h_ => h_.1)); replace BK317 := aM (yB (g := gb317) (o := .cells #[.int .i64 a0_0, .slice A0_1 l0_1.length c0_1, .slice A0_2 l0_2.length c0_2] 24 (0, 0)) (by (with_reducible repeat (first | refine yN ?_ _ | refine yD ?_ | refine yA ?_ _)); refine yF ?_ NB317_334.out _; (with_reducible repeat (first | refine yN ?_ _ | refine yD ?_ | refine yA ?_ _)); refine yF ?_ NB317_334.out _; (with_reducible repeat (first | refine yN ?_ _ | refine yD ?_ | refine yA ?_ _)); refine yF ?_ NB317_334.out _; (with_reducible repeat (first | refine yN ?_ _ | refine yD ?_ | refine yA ?_ _)); exact BK317.out) hb); replace BK334 := aM (yB (g := gb334) (o := .cells #[.int .i64 t326, .slice Ao24 t327.length co24, .slice Ao25 t330.length co25] 28 (0, 0)) (by (with_reducible repeat (first | refine yN ?_ _ | refine yD ?_ | refine yA ?_ _)); refine yP (cs := #[.int .i64 t326, .slice Ao24 t327.length co24, .slice none 0 0]) ?_ 2 _ rfl; (with_reducible repeat (first | refine yN ?_ _ | refine yD ?_ | refine yA ?_ _)); refine yP (cs := #[.int .i64 t326, .slice none 0 0, .slice none 0 0]) ?_ 1 _ rfl; (with_reducible repeat (first | refine yN ?_ _ | refine yD ?_ | refine yA ?_ _)); refine yP (cs := #[.int .i64 0, .slice none 0 0, .slice none 0 0]) ?_ 0 _ rfl; (with_reducible repeat (first | refine yN ?_ _ | refine yD ?_ | refine yA ?_ _)); exact BK334.out) hb); replace HB := aM (zT (zH HB.out) hb); (try clear hb); (try clear ho0); (try clear ho1)) | ((with_reducible refine gate_dst (N := 8) rfl ?_); refine box_event ?hg (N := 8) ?hd (cs := #[.int .i64 0, .slice none 0 0, .slice none 0 0]) (t := 28) ?hr ?_; (case hd => rfl); (case hg => rfl); (case hr => first | (go_simp; done) | (go_simp; rfl)); intro gb342 hg w28 hbox hb; replace HO322 := xK HO322.out hb; replace HO325 := xK HO325.out hb; replace HO329 := xK HO329.out hb; replace HO332 := xK HO332.out hb; replace HO338 := xK HO338.out hb; replace HO341 := xK HO341.out hb; have BK342 := aM (hbox); have GW342 := aM ((by rw [hg]; exact (zZ (zH HB.out)) : w.heap.size ≤ gb342)); have GE342 := aM ((by rw [hg]; exact (zZ (zH HB.out)) : w.heap.size ≤ gb342)); replace HB := aM (zT (zH HB.out) hb); have NB317_342 := nL BK317.out hg; have NB342_317 := nR BK317.out hg; replace BK317 := yK BK317.out hb; have NB334_342 := nL BK334.out hg; have NB342_334 := nR BK334.out hg; replace BK334 := yK BK334.out hb; clear hb hbox hg; have hnb29 := NB342_317.out; have hnc29 := NB317_342.out; have hnb30 := NB342_334.out; have hnc30 := NB334_342.out; have hcz31_0 : w28.cell? ⟨gb342, 0, none⟩ = some (.int .i64 0) := yc BK342.out 0; have hcz31_1 : w28.cell? ⟨gb342, 1, none⟩ = some (.slice none 0 0) := yc BK342.out 1; have hcz31_2 : w28.cell? ⟨gb342, 2, none⟩ = some (.slice none 0 0) := yc BK342.out 2; have hfz31_0 := yZ BK342.out 0; have hfz31_1 := yZ BK342.out 1; have hfz31_2 := yZ BK342.out 2; obtain ⟨Ao32, co32, eo32⟩ := Kd.R_slice HO338.out; subst eo32; obtain ⟨Ao33, co33, eo33⟩ := Kd.R_slice HO341.out; subst eo33) | ((with_reducible refine gate_callee (f := 11) rfl ?_); refine goesL_ (some 33) rfl rfl Try.func11 (by kernel_rfl) rfl #[.agg #[.int .i64 t335, .slice Ao32 t336.length co32, .slice Ao33 t339.length co33], .int .i64 a1] rfl (by (try simp only [List.map_toArray, List.map_cons, List.map_nil]); first | done | rfl | (simp only [List.length_drop, List.length_take]; rfl)) ?_; (with_reducible refine (impl_GiveBlock.calls k t335 _ _ t336 _ _ t339 a1 t343 t344 t347 t350 _ ?side1 ?side2 ?side3 ?side4 A11.out).mono ?_); (case side1 => exact rC (n := t336.length) (c := co32) ((x3 HO338.out BK342.out (by decide) (.int .i64 t335) (.slice Ao32 t336.length co32) (.slice Ao33 t339.length co33)))); (case side2 => exact (Kd.R_reads' HO338.out).2.1); (case side3 => exact rC (n := t339.length) (c := co33) ((x3 HO341.out BK342.out (by decide) (.int .i64 t335) (.slice Ao32 t336.length co32) (.slice Ao33 t339.length co33)))); (case side4 => exact (Kd.R_reads' HO341.out).2.1); rintro e w34 ⟨v345, v348, rfl, ho0, ho1, hb⟩; refine ⟨_, rfl, ?_⟩; have HO346 := aM (xL (Kd.R_new' (Kd.R_new' (Kd.R_new' (Kd.R_new' (Kd.R_new' (Kd.R_new' ho0 (Kd.R_lt (xH ((x3 HO322.out BK342.out (by decide) (.int .i64 t335) (.slice Ao32 t336.length co32) (.slice Ao33 t339.length co33)))))) (Kd.R_lt (xH ((x3 HO325.out BK342.out (by decide) (.int .i64 t335) (.slice Ao32 t336.length co32) (.slice Ao33 t339.length co33)))))) (Kd.R_lt (xH ((x3 HO329.out BK342.out (by decide) (.int .i64 t335) (.slice Ao32 t336.length co32) (.slice Ao33 t339.length co33)))))) (Kd.R_lt (xH ((x3 HO332.out BK342.out (by decide) (.int .i64 t335) (.slice Ao32 t336.length co32) (.slice Ao33 t339.length co33)))))) (Kd.R_lt (xH ((x3 HO338.out BK342.out (by decide) (.int .i64 t335) (.slice Ao32 t336.length co32) (.slice Ao33 t339.length co33)))))) (Kd.R_lt (xH ((x3 HO341.out BK342.out (by decide) (.int .i64 t335) (.slice Ao32 t336.length co32) (.slice Ao33 t339.length co33)))))) (zZ (zH HB.out))); have HO349 := aM (xL (Kd.R_new' (Kd.R_new' (Kd.R_new' (Kd.R_new' (Kd.R_new' (Kd.R_new' ho1 (Kd.R_lt (xH ((x3 HO322.out BK342.out (by decide) (.int .i64 t335) (.slice Ao32 t336.length co32) (.slice Ao33 t339.length co33)))))) (Kd.R_lt (xH ((x3 HO325.out BK342.out (by decide) (.int .i64 t335) (.slice Ao32 t336.length co32) (.slice Ao33 t339.length co33)))))) (Kd.R_lt (xH ((x3 HO329.out BK342.out (by decide) (.int .i64 t335) (.slice Ao32 t336.length co32) (.slice Ao33 t339.length co33)))))) (Kd.R_lt (xH ((x3 HO332.out BK342.out (by decide) (.int .i64 t335) (.slice Ao32 t336.length co32) (.slice Ao33 t339.length co33)))))) (Kd.R_lt (xH ((x3 HO338.out BK342.out (by decide) (.int .i64 t335) (.slice Ao32 t336.length co32) (.slice Ao33 t339.length co33)))))) (Kd.R_lt (xH ((x3 HO341.out BK342.out (by decide) (.int .i64 t335) (.slice Ao32 t336.length co32) (.slice Ao33 t339.length co33)))))) (zZ (zH HB.out))); replace HO322 := aM (xM (Kd.R_told (Kd.R_told (Kd.R_old (xH ((x3 HO322.out BK342.out (by decide) (.int .i64 t335) (.slice Ao32 t336.length co32) (.slice Ao33 t339.length co33)))) hb) (Kd.R_base ho0)) (Kd.R_base ho1)) (fun _ h_ => h_.1)); replace HO325 := aM (xM (Kd.R_told (Kd.R_told (Kd.R_old (xH ((x3 HO325.out BK342.out (by decide) (.int .i64 t335) (.slice Ao32 t336.length co32) (.slice Ao33 t339.length co33)))) hb) (Kd.R_base ho0)) (Kd.R_base ho1)) (fun _ h_ => h_.1)); replace HO329 := aM (xM (Kd.R_told (Kd.R_told (Kd.R_old (xH ((x3 HO329.out BK342.out (by decide) (.int .i64 t335) (.slice Ao32 t336.length co32) (.slice Ao33 t339.length co33)))) hb) (Kd.R_base ho0)) (Kd.R_base ho1)) (fun _ h_ => h_.1)); replace HO332 := aM (xM (Kd.R_told (Kd.R_told (Kd.R_old (xH ((x3 HO332.out BK342.out (by decide) (.int .i64 t335) (.slice Ao32 t336.length co32) (.slice Ao33 t339.length co33)))) hb) (Kd.R_base ho0)) (Kd.R_base ho1)) (fun _ h_ => h_.1)); replace HO338 := aM (xM (Kd.R_told (Kd.R_told (Kd.R_old (xH ((x3 HO338.out BK342.out (by decide) (.int .i64 t335) (.slice Ao32 t336.length co32) (.slice Ao33 t339.length co33)))) hb) (Kd.R_base ho0)) (Kd.R_base ho1)) (fun _ h_ => h_.1)); replace HO341 := aM (xM (Kd.R_told (Kd.R_told (Kd.R_old (xH ((x3 HO341.out BK342.out (by decide) (.int .i64 t335) (.slice Ao32 t336.length co32) (.slice Ao33 t339.length co33)))) hb) (Kd.R_base ho0)) (Kd.R_base ho1)) (fun _ h_ => h_.1)); replace BK317 := aM (yB (g := gb317) (o := .cells #[.int .i64 a0_0, .slice A0_1 l0_1.length c0_1, .slice A0_2 l0_2.length c0_2] 24 (0, 0)) (by (with_reducible repeat (first | refine yN ?_ _ | refine yD ?_ | refine yA ?_ _)); refine yF ?_ NB317_342.out _; (with_reducible repeat (first | refine yN ?_ _ | refine yD ?_ | refine yA ?_ _)); refine yF ?_ NB317_342.out _; (with_reducible repeat (first | refine yN ?_ _ | refine yD ?_ | refine yA ?_ _)); refine yF ?_ NB317_342.out _; (with_reducible repeat (first | refine yN ?_ _ | refine yD ?_ | refine yA ?_ _)); exact BK317.out) hb); replace BK334 := aM (yB (g := gb334) (o := .cells #[.int .i64 t326, .slice Ao24 t327.length co24, .slice Ao25 t330.length co25] 28 (0, 0)) (by (with_reducible repeat (first | refine yN ?_ _ | refine yD ?_ | refine yA ?_ _)); refine yF ?_ NB334_342.out _; (with_reducible repeat (first | refine yN ?_ _ | refine yD ?_ | refine yA ?_ _)); refine yF ?_ NB334_342.out _; (with_reducible repeat (first | refine yN ?_ _ | refine yD ?_ | refine yA ?_ _)); refine yF ?_ NB334_342.out _; (with_reducible repeat (first | refine yN ?_ _ | refine yD ?_ | refine yA ?_ _)); exact BK334.out) hb); replace BK342 := aM (yB (g := gb342) (o := .cells #[.int .i64 t335, .slice Ao32 t336.length co32, .slice Ao33 t339.length co33] 28 (0, 0)) (by (with_reducible repeat (first | refine yN ?_ _ | refine yD ?_ | refine yA ?_ _)); refine yP (cs := #[.int .i64 t335, .slice Ao32 t336.length co32, .slice none 0 0]) ?_ 2 _ rfl; (with_reducible repeat (first | refine yN ?_ _ | refine yD ?_ | refine yA ?_ _)); refine yP (cs := #[.int .i64 t335, .slice none 0 0, .slice none 0 0]) ?_ 1 _ rfl; (with_reducible repeat (first | refine yN ?_ _ | refine yD ?_ | refine yA ?_ _)); refine yP (cs := #[.int .i64 0, .slice none 0 0, .slice none 0 0]) ?_ 0 _ rfl; (with_reducible repeat (first | refine yN ?_ _ | refine yD ?_ | refine yA ?_ _)); exact BK342.out) hb); replace HB := aM (zT (zH HB.out) hb); (try clear hb); (try clear ho0); (try clear ho1)) | ((with_reducible refine gate_dst (N := 9) rfl ?_); refine box_event ?hg (N := 9) ?hd (cs := #[.int .i64 0, .slice none 0 0, .slice none 0 0]) (t := 28) ?hr ?_; (case hd => rfl); (case hg => rfl); (case hr => first | (go_simp; done) | (go_simp; rfl)); intro gb351 hg w35 hbox hb; replace HO322 := xK HO322.out hb; replace HO325 := xK HO325.out hb; replace HO329 := xK HO329.out hb; replace HO332 := xK HO332.out hb; replace HO338 := xK HO338.out hb; replace HO341 := xK HO341.out hb; replace HO346 := xK HO346.out hb; replace HO349 := xK HO349.out hb; have BK351 := aM (hbox); have GW351 := aM ((by rw [hg]; exact (zZ (zH HB.out)) : w.heap.size ≤ gb351)); have GE351 := aM ((by rw [hg]; exact (zZ (zH HB.out)) : w.heap.size ≤ gb351)); replace HB := aM (zT (zH HB.out) hb); have NB317_351 := nL BK317.out hg; have NB351_317 := nR BK317.out hg; replace BK317 := yK BK317.out hb; have NB334_351 := nL BK334.out hg; have NB351_334 := nR BK334.out hg; replace BK334 := yK BK334.out hb; have NB342_351 := nL BK342.out hg; have NB351_342 := nR BK342.out hg; replace BK342 := yK BK342.out hb; clear hb hbox hg; have hnb36 := NB351_317.out; have hnc36 := NB317_351.out; have hnb37 := NB351_334.out; have hnc37 := NB334_351.out; have hnb38 := NB351_342.out; have hnc38 := NB342_351.out; have hcz39_0 : w35.cell? ⟨gb351, 0, none⟩ = some (.int .i64 0) := yc BK351.out 0; have hcz39_1 : w35.cell? ⟨gb351, 1, none⟩ = some (.slice none 0 0) := yc BK351.out 1; have hcz39_2 : w35.cell? ⟨gb351, 2, none⟩ = some (.slice none 0 0) := yc BK351.out 2; have hfz39_0 := yZ BK351.out 0; have hfz39_1 := yZ BK351.out 1; have hfz39_2 := yZ BK351.out 2; obtain ⟨Ao40, co40, eo40⟩ := Kd.R_slice HO346.out; subst eo40; obtain ⟨Ao41, co41, eo41⟩ := Kd.R_slice HO349.out; subst eo41))
  (try simp only [Act.put, qA, qB, qC])
  go_cut [44] (fun v44 wc => ∃ (kq : Nat) (x44_11 : Bool), v44 = .bool x44_11 ∧ Aside0 (laws_FnExactGiveBlock.j0 kq a1 t333 t350 x44_11 a0_0 l0_1 l0_2 t326 t327 t330 t335 t336 t339 t343 t344 t347 = some r) ∧ Aside0 (kq ≤ k) ∧ Aside0 (Kd.R k45 45 wc w.heap.size (fun k_ => some k_ ≠ oB Ao25 t330.length co25 ∧ some k_ ≠ oB Ao32 t336.length co32 ∧ some k_ ≠ oB Ao33 t339.length co33 ∧ some k_ ≠ oB Ao40 t344.length co40 ∧ some k_ ≠ oB Ao41 t347.length co41) (.slice Ao24 t327.length co24) t327) ∧ Aside0 (Kd.R k45 45 wc w.heap.size (fun k_ => some k_ ≠ oB Ao24 t327.length co24 ∧ some k_ ≠ oB Ao32 t336.length co32 ∧ some k_ ≠ oB Ao33 t339.length co33 ∧ some k_ ≠ oB Ao40 t344.length co40 ∧ some k_ ≠ oB Ao41 t347.length co41) (.slice Ao25 t330.length co25) t330) ∧ Aside0 (Kd.R k45 45 wc w.heap.size (fun k_ => some k_ ≠ oB Ao24 t327.length co24 ∧ some k_ ≠ oB Ao25 t330.length co25 ∧ some k_ ≠ oB Ao33 t339.length co33 ∧ some k_ ≠ oB Ao40 t344.length co40 ∧ some k_ ≠ oB Ao41 t347.length co41) (.slice Ao32 t336.length co32) t336) ∧ Aside0 (Kd.R k45 45 wc w.heap.size (fun k_ => some k_ ≠ oB Ao24 t327.length co24 ∧ some k_ ≠ oB Ao25 t330.length co25 ∧ some k_ ≠ oB Ao32 t336.length co32 ∧ some k_ ≠ oB Ao40 t344.length co40 ∧ some k_ ≠ oB Ao41 t347.length co41) (.slice Ao33 t339.length co33) t339) ∧ Aside0 (Kd.R k45 45 wc w.heap.size (fun k_ => some k_ ≠ oB Ao24 t327.length co24 ∧ some k_ ≠ oB Ao25 t330.length co25 ∧ some k_ ≠ oB Ao32 t336.length co32 ∧ some k_ ≠ oB Ao33 t339.length co33 ∧ some k_ ≠ oB Ao41 t347.length co41) (.slice Ao40 t344.length co40) t344) ∧ Aside0 (Kd.R k45 45 wc w.heap.size (fun k_ => some k_ ≠ oB Ao24 t327.length co24 ∧ some k_ ≠ oB Ao25 t330.length co25 ∧ some k_ ≠ oB Ao32 t336.length co32 ∧ some k_ ≠ oB Ao33 t339.length co33 ∧ some k_ ≠ oB Ao40 t344.length co40) (.slice Ao41 t347.length co41) t347) ∧ Aside0 (wc.heap[gb317]? = some (.cells #[.int .i64 a0_0, (.slice A0_1 l0_1.length c0_1), (.slice A0_2 l0_2.length c0_2)] 24 (0, 0))) ∧ Aside0 (wc.heap[gb334]? = some (.cells #[.int .i64 t326, (.slice Ao24 t327.length co24), (.slice Ao25 t330.length co25)] 28 (0, 0))) ∧ Aside0 (wc.heap[gb342]? = some (.cells #[.int .i64 t335, (.slice Ao32 t336.length co32), (.slice Ao33 t339.length co33)] 28 (0, 0))) ∧ Aside0 (wc.heap[gb351]? = some (.cells #[.int .i64 t343, (.slice Ao40 t344.length co40), (.slice Ao41 t347.length co41)] 28 (0, 0))) ∧ Aside0 (Below w.heap.size w wc))
  case first =>
   have H := HC12.out
   clear HC12
   replace H := Option.bind_eq_some_iff.mp H
   obtain ⟨t352, A420, H⟩ := H
   replace H : (if t352 = true then (laws_FnExactGiveBlock.j0 k a1 t333 t350 (t350 != t333) a0_0 l0_1 l0_2 t326 t327 t330 t335 t336 t339 t343 t344 t347) else (laws_FnExactGiveBlock.j0 k a1 t333 t350 true a0_0 l0_1 l0_2 t326 t327 t330 t335 t336 t339 t343 t344 t347)) = some r := H
   have A42 := aM A420
   clear A420
   by_cases c43 : t352 = true
   ·subst c43
    have H1 : (laws_FnExactGiveBlock.j0 k a1 t333 t350 (t350 != t333) a0_0 l0_1 l0_2 t326 t327 t330 t335 t336 t339 t343 t344 t347) = some r := by rw [if_pos rfl] at H; exact H
    clear H
    have H := H1
    clear H1
    have H' := aM H
    clear H
    have hnb44 := NB351_317.out
    have hnc44 := NB317_351.out
    have hnb45 := NB351_334.out
    have hnc45 := NB334_351.out
    have hnb46 := NB351_342.out
    have hnc46 := NB342_351.out
    have hcz47_0 : w35.cell? ⟨gb351, 0, none⟩ = some (.int .i64 0) := yc BK351.out 0
    have hcz47_1 : w35.cell? ⟨gb351, 1, none⟩ = some (.slice none 0 0) := yc BK351.out 1
    have hcz47_2 : w35.cell? ⟨gb351, 2, none⟩ = some (.slice none 0 0) := yc BK351.out 2
    have hfz47_0 := yZ BK351.out 0
    have hfz47_1 := yZ BK351.out 1
    have hfz47_2 := yZ BK351.out 2
    have hnb48 := NB334_317.out
    have hnc48 := NB317_334.out
    have hnb49 := NB334_342.out
    have hnc49 := NB342_334.out
    have hcz50_0 : w35.cell? ⟨gb334, 0, none⟩ = some (.int .i64 t326) := yc BK334.out 0
    have hcz50_1 : w35.cell? ⟨gb334, 1, none⟩ = some (.slice Ao24 t327.length co24) := yc BK334.out 1
    have hcz50_2 : w35.cell? ⟨gb334, 2, none⟩ = some (.slice Ao25 t330.length co25) := yc BK334.out 2
    have hfz50_0 := yZ BK334.out 0
    have hfz50_1 := yZ BK334.out 1
    have hfz50_2 := yZ BK334.out 2
    go_wp2_with (first | ((with_reducible refine gate_callee (f := 12) rfl ?_); refine goesL_ (some 38) rfl rfl Try.func12 (by kernel_rfl) rfl #[.agg #[.int .i64 t343, .slice Ao40 t344.length co40, .slice Ao41 t347.length co41], .agg #[.int .i64 t326, .slice Ao24 t327.length co24, .slice Ao25 t330.length co25]] rfl (by (try simp only [List.map_toArray, List.map_cons, List.map_nil]); first | done | rfl | (simp only [List.length_drop, List.length_take]; rfl)) ?_; (with_reducible refine (laws_eqBuddy.calls k t343 _ _ t344 _ _ t347 t326 _ _ t327 _ _ t330 true _ ?side1 ?side2 ?side3 ?side4 ?side5 ?side6 ?side7 ?side8 A42.out).mono ?_); (case side1 => exact rC (n := t344.length) (c := co40) ((x3 HO346.out BK351.out (by decide) (.int .i64 t343) (.slice Ao40 t344.length co40) (.slice Ao41 t347.length co41)))); (case side2 => exact (Kd.R_reads' HO346.out).2.1); (case side3 => exact rC (n := t347.length) (c := co41) ((x3 HO349.out BK351.out (by decide) (.int .i64 t343) (.slice Ao40 t344.length co40) (.slice Ao41 t347.length co41)))); (case side4 => exact (Kd.R_reads' HO349.out).2.1); (case side5 => exact rC (n := t327.length) (c := co24) ((x3 HO329.out BK351.out (by decide) (.int .i64 t343) (.slice Ao40 t344.length co40) (.slice Ao41 t347.length co41)))); (case side6 => exact (Kd.R_reads' HO329.out).2.1); (case side7 => exact rC (n := t330.length) (c := co25) ((x3 HO332.out BK351.out (by decide) (.int .i64 t343) (.slice Ao40 t344.length co40) (.slice Ao41 t347.length co41)))); (case side8 => exact (Kd.R_reads' HO332.out).2.1); rintro e w51 ⟨rfl, hb⟩; refine ⟨_, rfl, ?_⟩; replace HO322 := aM (xB (xH ((x3 HO322.out BK351.out (by decide) (.int .i64 t343) (.slice Ao40 t344.length co40) (.slice Ao41 t347.length co41)))) hb); replace HO325 := aM (xB (xH ((x3 HO325.out BK351.out (by decide) (.int .i64 t343) (.slice Ao40 t344.length co40) (.slice Ao41 t347.length co41)))) hb); replace HO329 := aM (xB (xH ((x3 HO329.out BK351.out (by decide) (.int .i64 t343) (.slice Ao40 t344.length co40) (.slice Ao41 t347.length co41)))) hb); replace HO332 := aM (xB (xH ((x3 HO332.out BK351.out (by decide) (.int .i64 t343) (.slice Ao40 t344.length co40) (.slice Ao41 t347.length co41)))) hb); replace HO338 := aM (xB (xH ((x3 HO338.out BK351.out (by decide) (.int .i64 t343) (.slice Ao40 t344.length co40) (.slice Ao41 t347.length co41)))) hb); replace HO341 := aM (xB (xH ((x3 HO341.out BK351.out (by decide) (.int .i64 t343) (.slice Ao40 t344.length co40) (.slice Ao41 t347.length co41)))) hb); replace HO346 := aM (xB (xH ((x3 HO346.out BK351.out (by decide) (.int .i64 t343) (.slice Ao40 t344.length co40) (.slice Ao41 t347.length co41)))) hb); replace HO349 := aM (xB (xH ((x3 HO349.out BK351.out (by decide) (.int .i64 t343) (.slice Ao40 t344.length co40) (.slice Ao41 t347.length co41)))) hb); replace BK317 := aM (yB (g := gb317) (o := .cells #[.int .i64 a0_0, .slice A0_1 l0_1.length c0_1, .slice A0_2 l0_2.length c0_2] 24 (0, 0)) (by (with_reducible repeat (first | refine yN ?_ _ | refine yD ?_ | refine yA ?_ _)); refine yF ?_ NB317_351.out _; (with_reducible repeat (first | refine yN ?_ _ | refine yD ?_ | refine yA ?_ _)); refine yF ?_ NB317_351.out _; (with_reducible repeat (first | refine yN ?_ _ | refine yD ?_ | refine yA ?_ _)); refine yF ?_ NB317_351.out _; (with_reducible repeat (first | refine yN ?_ _ | refine yD ?_ | refine yA ?_ _)); exact BK317.out) hb); replace BK334 := aM (yB (g := gb334) (o := .cells #[.int .i64 t326, .slice Ao24 t327.length co24, .slice Ao25 t330.length co25] 28 (0, 0)) (by (with_reducible repeat (first | refine yN ?_ _ | refine yD ?_ | refine yA ?_ _)); refine yF ?_ NB334_351.out _; (with_reducible repeat (first | refine yN ?_ _ | refine yD ?_ | refine yA ?_ _)); refine yF ?_ NB334_351.out _; (with_reducible repeat (first | refine yN ?_ _ | refine yD ?_ | refine yA ?_ _)); refine yF ?_ NB334_351.out _; (with_reducible repeat (first | refine yN ?_ _ | refine yD ?_ | refine yA ?_ _)); exact BK334.out) hb); replace BK342 := aM (yB (g := gb342) (o := .cells #[.int .i64 t335, .slice Ao32 t336.length co32, .slice Ao33 t339.length co33] 28 (0, 0)) (by (with_reducible repeat (first | refine yN ?_ _ | refine yD ?_ | refine yA ?_ _)); refine yF ?_ NB342_351.out _; (with_reducible repeat (first | refine yN ?_ _ | refine yD ?_ | refine yA ?_ _)); refine yF ?_ NB342_351.out _; (with_reducible repeat (first | refine yN ?_ _ | refine yD ?_ | refine yA ?_ _)); refine yF ?_ NB342_351.out _; (with_reducible repeat (first | refine yN ?_ _ | refine yD ?_ | refine yA ?_ _)); exact BK342.out) hb); replace BK351 := aM (yB (g := gb351) (o := .cells #[.int .i64 t343, .slice Ao40 t344.length co40, .slice Ao41 t347.length co41] 28 (0, 0)) (by (with_reducible repeat (first | refine yN ?_ _ | refine yD ?_ | refine yA ?_ _)); refine yP (cs := #[.int .i64 t343, .slice Ao40 t344.length co40, .slice none 0 0]) ?_ 2 _ rfl; (with_reducible repeat (first | refine yN ?_ _ | refine yD ?_ | refine yA ?_ _)); refine yP (cs := #[.int .i64 t343, .slice none 0 0, .slice none 0 0]) ?_ 1 _ rfl; (with_reducible repeat (first | refine yN ?_ _ | refine yD ?_ | refine yA ?_ _)); refine yP (cs := #[.int .i64 0, .slice none 0 0, .slice none 0 0]) ?_ 0 _ rfl; (with_reducible repeat (first | refine yN ?_ _ | refine yD ?_ | refine yA ?_ _)); exact BK351.out) hb); replace HB := aM (zT (zH HB.out) hb); (try clear hb)))
    go_meet
    case rel => exact ⟨_, ((t350 != t333)), (by first | rfl | (simp; done) | (simp [*]; done)), H', ⟨by first | omega | exact Nat.le_refl _⟩, ⟨xH (xM HO329.out (fun _ hk => ⟨hk.1.1.1.1.1.1, ⟨hk.1.1.1.2, ⟨hk.1.1.2, ⟨hk.1.2, hk.2⟩⟩⟩⟩))⟩, ⟨xH (xM HO332.out (fun _ hk => ⟨hk.1.1.1.1.1.1, ⟨hk.1.1.1.2, ⟨hk.1.1.2, ⟨hk.1.2, hk.2⟩⟩⟩⟩))⟩, ⟨xH (xM HO338.out (fun _ hk => ⟨hk.1.1.1.2, ⟨hk.1.1.2, ⟨hk.1.1.1.1.1.1, ⟨hk.1.2, hk.2⟩⟩⟩⟩))⟩, ⟨xH (xM HO341.out (fun _ hk => ⟨hk.1.1.1.2, ⟨hk.1.1.2, ⟨hk.1.1.1.1.1.1, ⟨hk.1.2, hk.2⟩⟩⟩⟩))⟩, ⟨xH (xM HO346.out (fun _ hk => ⟨hk.1.1.1.2, ⟨hk.1.1.2, ⟨hk.1.2, ⟨hk.2, hk.1.1.1.1.1.1⟩⟩⟩⟩))⟩, ⟨xH (xM HO349.out (fun _ hk => ⟨hk.1.1.1.2, ⟨hk.1.1.2, ⟨hk.1.2, ⟨hk.2, hk.1.1.1.1.1.1⟩⟩⟩⟩))⟩, ⟨yH BK317.out⟩, ⟨yH BK334.out⟩, ⟨yH BK342.out⟩, ⟨yH BK351.out⟩, ⟨zH HB.out⟩⟩
   ·replace c43 := Bool.eq_false_iff.mpr c43
    subst c43
    have H1 : (laws_FnExactGiveBlock.j0 k a1 t333 t350 true a0_0 l0_1 l0_2 t326 t327 t330 t335 t336 t339 t343 t344 t347) = some r := by rw [if_neg (show ¬ (false = true) by decide)] at H; exact H
    clear H
    have H := H1
    clear H1
    have H' := aM H
    clear H
    have hnb52 := NB351_317.out
    have hnc52 := NB317_351.out
    have hnb53 := NB351_334.out
    have hnc53 := NB334_351.out
    have hnb54 := NB351_342.out
    have hnc54 := NB342_351.out
    have hcz55_0 : w35.cell? ⟨gb351, 0, none⟩ = some (.int .i64 0) := yc BK351.out 0
    have hcz55_1 : w35.cell? ⟨gb351, 1, none⟩ = some (.slice none 0 0) := yc BK351.out 1
    have hcz55_2 : w35.cell? ⟨gb351, 2, none⟩ = some (.slice none 0 0) := yc BK351.out 2
    have hfz55_0 := yZ BK351.out 0
    have hfz55_1 := yZ BK351.out 1
    have hfz55_2 := yZ BK351.out 2
    have hnb56 := NB334_317.out
    have hnc56 := NB317_334.out
    have hnb57 := NB334_342.out
    have hnc57 := NB342_334.out
    have hcz58_0 : w35.cell? ⟨gb334, 0, none⟩ = some (.int .i64 t326) := yc BK334.out 0
    have hcz58_1 : w35.cell? ⟨gb334, 1, none⟩ = some (.slice Ao24 t327.length co24) := yc BK334.out 1
    have hcz58_2 : w35.cell? ⟨gb334, 2, none⟩ = some (.slice Ao25 t330.length co25) := yc BK334.out 2
    have hfz58_0 := yZ BK334.out 0
    have hfz58_1 := yZ BK334.out 1
    have hfz58_2 := yZ BK334.out 2
    go_wp2_with (first | ((with_reducible refine gate_callee (f := 12) rfl ?_); refine goesL_ (some 38) rfl rfl Try.func12 (by kernel_rfl) rfl #[.agg #[.int .i64 t343, .slice Ao40 t344.length co40, .slice Ao41 t347.length co41], .agg #[.int .i64 t326, .slice Ao24 t327.length co24, .slice Ao25 t330.length co25]] rfl (by (try simp only [List.map_toArray, List.map_cons, List.map_nil]); first | done | rfl | (simp only [List.length_drop, List.length_take]; rfl)) ?_; (with_reducible refine (laws_eqBuddy.calls k t343 _ _ t344 _ _ t347 t326 _ _ t327 _ _ t330 false _ ?side1 ?side2 ?side3 ?side4 ?side5 ?side6 ?side7 ?side8 A42.out).mono ?_); (case side1 => exact rC (n := t344.length) (c := co40) ((x3 HO346.out BK351.out (by decide) (.int .i64 t343) (.slice Ao40 t344.length co40) (.slice Ao41 t347.length co41)))); (case side2 => exact (Kd.R_reads' HO346.out).2.1); (case side3 => exact rC (n := t347.length) (c := co41) ((x3 HO349.out BK351.out (by decide) (.int .i64 t343) (.slice Ao40 t344.length co40) (.slice Ao41 t347.length co41)))); (case side4 => exact (Kd.R_reads' HO349.out).2.1); (case side5 => exact rC (n := t327.length) (c := co24) ((x3 HO329.out BK351.out (by decide) (.int .i64 t343) (.slice Ao40 t344.length co40) (.slice Ao41 t347.length co41)))); (case side6 => exact (Kd.R_reads' HO329.out).2.1); (case side7 => exact rC (n := t330.length) (c := co25) ((x3 HO332.out BK351.out (by decide) (.int .i64 t343) (.slice Ao40 t344.length co40) (.slice Ao41 t347.length co41)))); (case side8 => exact (Kd.R_reads' HO332.out).2.1); rintro e w59 ⟨rfl, hb⟩; refine ⟨_, rfl, ?_⟩; replace HO322 := aM (xB (xH ((x3 HO322.out BK351.out (by decide) (.int .i64 t343) (.slice Ao40 t344.length co40) (.slice Ao41 t347.length co41)))) hb); replace HO325 := aM (xB (xH ((x3 HO325.out BK351.out (by decide) (.int .i64 t343) (.slice Ao40 t344.length co40) (.slice Ao41 t347.length co41)))) hb); replace HO329 := aM (xB (xH ((x3 HO329.out BK351.out (by decide) (.int .i64 t343) (.slice Ao40 t344.length co40) (.slice Ao41 t347.length co41)))) hb); replace HO332 := aM (xB (xH ((x3 HO332.out BK351.out (by decide) (.int .i64 t343) (.slice Ao40 t344.length co40) (.slice Ao41 t347.length co41)))) hb); replace HO338 := aM (xB (xH ((x3 HO338.out BK351.out (by decide) (.int .i64 t343) (.slice Ao40 t344.length co40) (.slice Ao41 t347.length co41)))) hb); replace HO341 := aM (xB (xH ((x3 HO341.out BK351.out (by decide) (.int .i64 t343) (.slice Ao40 t344.length co40) (.slice Ao41 t347.length co41)))) hb); replace HO346 := aM (xB (xH ((x3 HO346.out BK351.out (by decide) (.int .i64 t343) (.slice Ao40 t344.length co40) (.slice Ao41 t347.length co41)))) hb); replace HO349 := aM (xB (xH ((x3 HO349.out BK351.out (by decide) (.int .i64 t343) (.slice Ao40 t344.length co40) (.slice Ao41 t347.length co41)))) hb); replace BK317 := aM (yB (g := gb317) (o := .cells #[.int .i64 a0_0, .slice A0_1 l0_1.length c0_1, .slice A0_2 l0_2.length c0_2] 24 (0, 0)) (by (with_reducible repeat (first | refine yN ?_ _ | refine yD ?_ | refine yA ?_ _)); refine yF ?_ NB317_351.out _; (with_reducible repeat (first | refine yN ?_ _ | refine yD ?_ | refine yA ?_ _)); refine yF ?_ NB317_351.out _; (with_reducible repeat (first | refine yN ?_ _ | refine yD ?_ | refine yA ?_ _)); refine yF ?_ NB317_351.out _; (with_reducible repeat (first | refine yN ?_ _ | refine yD ?_ | refine yA ?_ _)); exact BK317.out) hb); replace BK334 := aM (yB (g := gb334) (o := .cells #[.int .i64 t326, .slice Ao24 t327.length co24, .slice Ao25 t330.length co25] 28 (0, 0)) (by (with_reducible repeat (first | refine yN ?_ _ | refine yD ?_ | refine yA ?_ _)); refine yF ?_ NB334_351.out _; (with_reducible repeat (first | refine yN ?_ _ | refine yD ?_ | refine yA ?_ _)); refine yF ?_ NB334_351.out _; (with_reducible repeat (first | refine yN ?_ _ | refine yD ?_ | refine yA ?_ _)); refine yF ?_ NB334_351.out _; (with_reducible repeat (first | refine yN ?_ _ | refine yD ?_ | refine yA ?_ _)); exact BK334.out) hb); replace BK342 := aM (yB (g := gb342) (o := .cells #[.int .i64 t335, .slice Ao32 t336.length co32, .slice Ao33 t339.length co33] 28 (0, 0)) (by (with_reducible repeat (first | refine yN ?_ _ | refine yD ?_ | refine yA ?_ _)); refine yF ?_ NB342_351.out _; (with_reducible repeat (first | refine yN ?_ _ | refine yD ?_ | refine yA ?_ _)); refine yF ?_ NB342_351.out _; (with_reducible repeat (first | refine yN ?_ _ | refine yD ?_ | refine yA ?_ _)); refine yF ?_ NB342_351.out _; (with_reducible repeat (first | refine yN ?_ _ | refine yD ?_ | refine yA ?_ _)); exact BK342.out) hb); replace BK351 := aM (yB (g := gb351) (o := .cells #[.int .i64 t343, .slice Ao40 t344.length co40, .slice Ao41 t347.length co41] 28 (0, 0)) (by (with_reducible repeat (first | refine yN ?_ _ | refine yD ?_ | refine yA ?_ _)); refine yP (cs := #[.int .i64 t343, .slice Ao40 t344.length co40, .slice none 0 0]) ?_ 2 _ rfl; (with_reducible repeat (first | refine yN ?_ _ | refine yD ?_ | refine yA ?_ _)); refine yP (cs := #[.int .i64 t343, .slice none 0 0, .slice none 0 0]) ?_ 1 _ rfl; (with_reducible repeat (first | refine yN ?_ _ | refine yD ?_ | refine yA ?_ _)); refine yP (cs := #[.int .i64 0, .slice none 0 0, .slice none 0 0]) ?_ 0 _ rfl; (with_reducible repeat (first | refine yN ?_ _ | refine yD ?_ | refine yA ?_ _)); exact BK351.out) hb); replace HB := aM (zT (zH HB.out) hb); (try clear hb)))
    go_meet
    case rel => exact ⟨_, (true), (by first | rfl | (simp; done) | (simp [*]; done)), H', ⟨by first | omega | exact Nat.le_refl _⟩, ⟨xH (xM HO329.out (fun _ hk => ⟨hk.1.1.1.1.1.1, ⟨hk.1.1.1.2, ⟨hk.1.1.2, ⟨hk.1.2, hk.2⟩⟩⟩⟩))⟩, ⟨xH (xM HO332.out (fun _ hk => ⟨hk.1.1.1.1.1.1, ⟨hk.1.1.1.2, ⟨hk.1.1.2, ⟨hk.1.2, hk.2⟩⟩⟩⟩))⟩, ⟨xH (xM HO338.out (fun _ hk => ⟨hk.1.1.1.2, ⟨hk.1.1.2, ⟨hk.1.1.1.1.1.1, ⟨hk.1.2, hk.2⟩⟩⟩⟩))⟩, ⟨xH (xM HO341.out (fun _ hk => ⟨hk.1.1.1.2, ⟨hk.1.1.2, ⟨hk.1.1.1.1.1.1, ⟨hk.1.2, hk.2⟩⟩⟩⟩))⟩, ⟨xH (xM HO346.out (fun _ hk => ⟨hk.1.1.1.2, ⟨hk.1.1.2, ⟨hk.1.2, ⟨hk.2, hk.1.1.1.1.1.1⟩⟩⟩⟩))⟩, ⟨xH (xM HO349.out (fun _ hk => ⟨hk.1.1.1.2, ⟨hk.1.1.2, ⟨hk.1.2, ⟨hk.2, hk.1.1.1.1.1.1⟩⟩⟩⟩))⟩, ⟨yH BK317.out⟩, ⟨yH BK334.out⟩, ⟨yH BK342.out⟩, ⟨yH BK351.out⟩, ⟨zH HB.out⟩⟩
  case rest =>
   clear HC12
   (try clear c1); (try clear c2); (try clear p2); (try clear c3); (try clear c4); (try clear c4b0); (try clear c5); (try clear c8); (try clear c9); (try clear c10); (try clear c11); (try clear c12); (try clear c22); (try clear c29); (try clear c30); (try clear c36); (try clear c37); (try clear c38); (try clear c43); (try clear c44); (try clear c45); (try clear c46); (try clear c48); (try clear c49); (try clear c52); (try clear c53); (try clear c54); (try clear c56); (try clear c57); (try clear hcz14_0); (try clear hcz14_1); (try clear hcz14_2); (try clear hcz16_0); (try clear hcz16_1); (try clear hcz16_2); (try clear hcz23_0); (try clear hcz23_1); (try clear hcz23_2); (try clear hcz26_0); (try clear hcz26_1); (try clear hcz26_2); (try clear hcz31_0); (try clear hcz31_1); (try clear hcz31_2); (try clear hcz39_0); (try clear hcz39_1); (try clear hcz39_2); (try clear hcz47_0); (try clear hcz47_1); (try clear hcz47_2); (try clear hcz50_0); (try clear hcz50_1); (try clear hcz50_2); (try clear hcz55_0); (try clear hcz55_1); (try clear hcz55_2); (try clear hcz58_0); (try clear hcz58_1); (try clear hcz58_2); (try clear hcz6_0); (try clear hcz6_1); (try clear hcz6_2); (try clear hfz14_0); (try clear hfz14_1); (try clear hfz14_2); (try clear hfz16_0); (try clear hfz16_1); (try clear hfz16_2); (try clear hfz23_0); (try clear hfz23_1); (try clear hfz23_2); (try clear hfz26_0); (try clear hfz26_1); (try clear hfz26_2); (try clear hfz31_0); (try clear hfz31_1); (try clear hfz31_2); (try clear hfz39_0); (try clear hfz39_1); (try clear hfz39_2); (try clear hfz47_0); (try clear hfz47_1); (try clear hfz47_2); (try clear hfz50_0); (try clear hfz50_1); (try clear hfz50_2); (try clear hfz55_0); (try clear hfz55_1); (try clear hfz55_2); (try clear hfz58_0); (try clear hfz58_1); (try clear hfz58_2); (try clear hfz6_0); (try clear hfz6_1); (try clear hfz6_2)
   obtain ⟨kq, x44_11, rfl, HA, HJ11, p0', p1', p2', p3', p4', p5', BK317, BK334, BK342, BK351, HB⟩ := hcut
   cases kq with
   | zero => exact absurd HA.out (fun h_ => by change none = some _ at h_; cases h_)
   | succ kj11 =>
    have H := HA.out
    clear HA
    simp only [laws_FnExactGiveBlock.j0] at H
    by_cases c60 : x44_11 = true
    ·subst c60
     have H1 : (some false) = some r := by rw [if_pos rfl] at H; exact H
     clear H
     have H := H1
     clear H1
     exact absurd (H.trans (congrArg some HR_.out)) (by decide)
    ·replace c60 := Bool.eq_false_iff.mpr c60
     subst c60
     have H1 : ((laws_toBuddy.f kj11 a0_0 l0_1 l0_2).bind fun bt353 => ((laws_eqBuddy.f kj11 t335 t336 t339 bt353.1 bt353.2.1 bt353.2.2).bind fun t360 => (if t360 = true then ((laws_markBuddy.f kj11 t335 t336 t339 1).bind fun bt361 => (if bt361.1 < 0 then (laws_FnExactGiveBlock.j1 kj11 a1 t333 true a0_0 l0_1 l0_2 t326 t327 t330 t343 t344 t347) else ((laws_eqBuddy.f kj11 t343 t344 t347 t326 t327 t330).bind fun t364 => (if t364 = true then (laws_FnExactGiveBlock.j1 kj11 a1 t333 (t350 != t333) a0_0 l0_1 l0_2 t326 t327 t330 t343 t344 t347) else (laws_FnExactGiveBlock.j1 kj11 a1 t333 true a0_0 l0_1 l0_2 t326 t327 t330 t343 t344 t347))))) else (some false)))) = some r := by rw [if_neg (show ¬ (false = true) by decide)] at H; exact H
     clear H
     have H := H1
     clear H1
     replace H := Option.bind_eq_some_iff.mp H
     obtain ⟨⟨t353, t354, t357⟩, A610, H⟩ := H
     replace H : ((laws_eqBuddy.f kj11 t335 t336 t339 t353 t354 t357).bind fun t360 => (if t360 = true then ((laws_markBuddy.f kj11 t335 t336 t339 1).bind fun bt361 => (if bt361.1 < 0 then (laws_FnExactGiveBlock.j1 kj11 a1 t333 true a0_0 l0_1 l0_2 t326 t327 t330 t343 t344 t347) else ((laws_eqBuddy.f kj11 t343 t344 t347 t326 t327 t330).bind fun t364 => (if t364 = true then (laws_FnExactGiveBlock.j1 kj11 a1 t333 (t350 != t333) a0_0 l0_1 l0_2 t326 t327 t330 t343 t344 t347) else (laws_FnExactGiveBlock.j1 kj11 a1 t333 true a0_0 l0_1 l0_2 t326 t327 t330 t343 t344 t347))))) else (some false))) = some r := H
     have A61 := aM A610
     clear A610
     replace H := Option.bind_eq_some_iff.mp H
     obtain ⟨t360, A620, H⟩ := H
     replace H : (if t360 = true then ((laws_markBuddy.f kj11 t335 t336 t339 1).bind fun bt361 => (if bt361.1 < 0 then (laws_FnExactGiveBlock.j1 kj11 a1 t333 true a0_0 l0_1 l0_2 t326 t327 t330 t343 t344 t347) else ((laws_eqBuddy.f kj11 t343 t344 t347 t326 t327 t330).bind fun t364 => (if t364 = true then (laws_FnExactGiveBlock.j1 kj11 a1 t333 (t350 != t333) a0_0 l0_1 l0_2 t326 t327 t330 t343 t344 t347) else (laws_FnExactGiveBlock.j1 kj11 a1 t333 true a0_0 l0_1 l0_2 t326 t327 t330 t343 t344 t347))))) else (some false)) = some r := H
     have A62 := aM A620
     clear A620
     by_cases c63 : t360 = true
     ·subst c63
      have H1 : ((laws_markBuddy.f kj11 t335 t336 t339 1).bind fun bt361 => (if bt361.1 < 0 then (laws_FnExactGiveBlock.j1 kj11 a1 t333 true a0_0 l0_1 l0_2 t326 t327 t330 t343 t344 t347) else ((laws_eqBuddy.f kj11 t343 t344 t347 t326 t327 t330).bind fun t364 => (if t364 = true then (laws_FnExactGiveBlock.j1 kj11 a1 t333 (t350 != t333) a0_0 l0_1 l0_2 t326 t327 t330 t343 t344 t347) else (laws_FnExactGiveBlock.j1 kj11 a1 t333 true a0_0 l0_1 l0_2 t326 t327 t330 t343 t344 t347))))) = some r := by rw [if_pos rfl] at H; exact H
      clear H
      have H := H1
      clear H1
      replace H := Option.bind_eq_some_iff.mp H
      obtain ⟨⟨t361, t362, t363⟩, A640, H⟩ := H
      replace H : (if t361 < 0 then (laws_FnExactGiveBlock.j1 kj11 a1 t333 true a0_0 l0_1 l0_2 t326 t327 t330 t343 t344 t347) else ((laws_eqBuddy.f kj11 t343 t344 t347 t326 t327 t330).bind fun t364 => (if t364 = true then (laws_FnExactGiveBlock.j1 kj11 a1 t333 (t350 != t333) a0_0 l0_1 l0_2 t326 t327 t330 t343 t344 t347) else (laws_FnExactGiveBlock.j1 kj11 a1 t333 true a0_0 l0_1 l0_2 t326 t327 t330 t343 t344 t347)))) = some r := H
      have A64 := aM A640
      clear A640
      have HC65 := aM H
      clear H
      try go_wp2
      replace p0' := aM (xD p0'.out)
      replace p1' := aM (xD p1'.out)
      replace p2' := aM (xD p2'.out)
      replace p3' := aM (xD p3'.out)
      replace p4' := aM (xD p4'.out)
      replace p5' := aM (xD p5'.out)
      replace BK317 := aM (yD BK317.out)
      replace BK334 := aM (yD BK334.out)
      replace BK342 := aM (yD BK342.out)
      replace BK351 := aM (yD BK351.out)
      replace HB := aM (zD HB.out)
      refine start_ (n := 5) (S := fun w' => w'.cell? ⟨gb342, 0, none⟩ = some (.int .i64 t335) ∧ w'.cell? ⟨gb342, 1, none⟩ = some (.slice Ao32 t336.length co32) ∧ w'.cell? ⟨gb342, 2, none⟩ = some (.slice Ao33 t339.length co33) ∧ w'.cell? ⟨gb317, 0, none⟩ = some (.int .i64 a0_0) ∧ w'.cell? ⟨gb317, 1, none⟩ = some (.slice A0_1 l0_1.length c0_1) ∧ w'.cell? ⟨gb317, 2, none⟩ = some (.slice A0_2 l0_2.length c0_2)) (ds := []) #[fF,fF,fF,fF,fF] (by kernel_rfl) rfl rfl ⟨yc BK342.out 0, yc BK342.out 1, yc BK342.out 2, yc BK317.out 0, yc BK317.out 1, yc BK317.out 2⟩ (fun hHeld => ?_)
      generalize wc.drew = w66 at p0' p1' p2' p3' p4' p5' BK317 BK334 BK342 BK351 HB hHeld ⊢
      refine take_ (i := 0) (N := some 45) (v := ?_) (a' := ?_) #[tT,fF,fF,fF,fF] rfl rfl (by kernel_rfl) (fun _ _ _ h => h) (Or.inl ⟨by rfl, ?_⟩) hHeld ?_ ?_
      rotate_left
      ·rintro w' ⟨s0, s1, s2, s3, s4, s5⟩
       go_simp
       with_reducible rfl
      rotate_left
      ·simp only [Act.put, qA, qB, qC, i64_w, i32_w]
       rfl
      refine take_ (i := 1) (N := some 46) (v := ?_) (a' := ?_) #[tT,tT,fF,fF,fF] rfl rfl (by kernel_rfl) (fun _ _ _ h => h) (Or.inl ⟨by rfl, ?_⟩) hHeld ?_ ?_
      rotate_left
      ·rintro w' ⟨s0, s1, s2, s3, s4, s5⟩
       go_simp
       with_reducible rfl
      rotate_left
      ·simp only [Act.put, qA, qB, qC, i64_w, i32_w]
       rfl
      refine one_ (i := 2) (N := some 47) #[tT,tT,tT,fF,fF] rfl rfl (by kernel_rfl) (by decide) (fun K hK => ?_)
      refine gS Try.func10 (by kernel_rfl) rfl #[.agg #[.int .i64 a0_0, .slice A0_1 l0_1.length c0_1, .slice A0_2 l0_2.length c0_2]] (by rfl) rfl rfl ?_
      with_reducible refine (laws_toBuddy.calls kj11 a0_0 _ _ l0_1 _ _ l0_2 t353 t354 t357 _ ?side1 ?side2 ?side3 ?side4 A61.out).mono ?_
      (case side1 => exact cK HR0_1.out HB.out)
      (case side2 => exact HC0_1.out)
      (case side3 => exact cK HR0_2.out HB.out)
      (case side4 => exact HC0_2.out)
      rintro e w67 ⟨v355, v358, rfl, ho0, ho1, hb⟩
      refine ⟨_, rfl, ?_⟩
      have HO356 := aM (xL (Kd.R_new' (Kd.R_new' (Kd.R_new' (Kd.R_new' (Kd.R_new' (Kd.R_new' ho0 (Kd.R_lt (xH p0'.out))) (Kd.R_lt (xH p1'.out))) (Kd.R_lt (xH p2'.out))) (Kd.R_lt (xH p3'.out))) (Kd.R_lt (xH p4'.out))) (Kd.R_lt (xH p5'.out))) (zZ (zH HB.out)))
      have HO359 := aM (xL (Kd.R_new' (Kd.R_new' (Kd.R_new' (Kd.R_new' (Kd.R_new' (Kd.R_new' ho1 (Kd.R_lt (xH p0'.out))) (Kd.R_lt (xH p1'.out))) (Kd.R_lt (xH p2'.out))) (Kd.R_lt (xH p3'.out))) (Kd.R_lt (xH p4'.out))) (Kd.R_lt (xH p5'.out))) (zZ (zH HB.out)))
      replace p0' := aM (xM (Kd.R_told (Kd.R_told (Kd.R_old (xH p0'.out) hb) (Kd.R_base ho0)) (Kd.R_base ho1)) (fun _ h_ => h_.1))
      replace p1' := aM (xM (Kd.R_told (Kd.R_told (Kd.R_old (xH p1'.out) hb) (Kd.R_base ho0)) (Kd.R_base ho1)) (fun _ h_ => h_.1))
      replace p2' := aM (xM (Kd.R_told (Kd.R_told (Kd.R_old (xH p2'.out) hb) (Kd.R_base ho0)) (Kd.R_base ho1)) (fun _ h_ => h_.1))
      replace p3' := aM (xM (Kd.R_told (Kd.R_told (Kd.R_old (xH p3'.out) hb) (Kd.R_base ho0)) (Kd.R_base ho1)) (fun _ h_ => h_.1))
      replace p4' := aM (xM (Kd.R_told (Kd.R_told (Kd.R_old (xH p4'.out) hb) (Kd.R_base ho0)) (Kd.R_base ho1)) (fun _ h_ => h_.1))
      replace p5' := aM (xM (Kd.R_told (Kd.R_told (Kd.R_old (xH p5'.out) hb) (Kd.R_base ho0)) (Kd.R_base ho1)) (fun _ h_ => h_.1))
      replace BK317 := yK BK317.out hb
      replace BK334 := yK BK334.out hb
      replace BK342 := yK BK342.out hb
      replace BK351 := yK BK351.out hb
      replace HB := aM (zT (zH HB.out) hb)
      (try clear hb); (try clear ho0); (try clear ho1)
      obtain ⟨Ao68, co68, eo68⟩ := Kd.R_slice HO356.out
      (first | subst eo68 | obtain ⟨rfl, rfl⟩ := eI eo68)
      obtain ⟨Ao69, co69, eo69⟩ := Kd.R_slice HO359.out
      (first | subst eo69 | obtain ⟨rfl, rfl⟩ := eI eo69)
      refine hK.out _ _ ⟨yc BK342.out 0, yc BK342.out 1, yc BK342.out 2, yc BK317.out 0, yc BK317.out 1, yc BK317.out 2⟩ (fun hHeld => ?_)
      clear hK K
      refine norm_ (a' := ?_) ?_ ?_
      rotate_left
      ·show Act.put _ (some 47) _ = _
       simp only [Act.put, qA, qB, qC, i64_w, i32_w]
       rfl
      refine one_ (i := 3) (N := some 48) #[tT,tT,tT,tT,fF] rfl rfl (by kernel_rfl) (by decide) (fun K hK => ?_)
      refine gS Try.func12 (by kernel_rfl) rfl #[.agg #[.int .i64 t335, .slice Ao32 t336.length co32, .slice Ao33 t339.length co33], .agg #[.int .i64 t353, .slice Ao68 t354.length co68, .slice Ao69 t357.length co69]] (by rfl) rfl rfl ?_
      with_reducible refine (laws_eqBuddy.calls kj11 t335 _ _ t336 _ _ t339 t353 _ _ t354 _ _ t357 true _ ?side1 ?side2 ?side3 ?side4 ?side5 ?side6 ?side7 ?side8 A62.out).mono ?_
      (case side1 => repeat (first | exact (Kd.R_reads' p2'.out).2.2 | (with_reducible refine cA ?_ _) | (with_reducible refine cN ?_ _) | (with_reducible refine cD ?_)))
      (case side2 => exact (Kd.R_reads' p2'.out).2.1)
      (case side3 => repeat (first | exact (Kd.R_reads' p3'.out).2.2 | (with_reducible refine cA ?_ _) | (with_reducible refine cN ?_ _) | (with_reducible refine cD ?_)))
      (case side4 => exact (Kd.R_reads' p3'.out).2.1)
      (case side5 => repeat (first | exact (Kd.R_reads' HO356.out).2.2 | (with_reducible refine cA ?_ _) | (with_reducible refine cN ?_ _) | (with_reducible refine cD ?_)))
      (case side6 => exact (Kd.R_reads' HO356.out).2.1)
      (case side7 => repeat (first | exact (Kd.R_reads' HO359.out).2.2 | (with_reducible refine cA ?_ _) | (with_reducible refine cN ?_ _) | (with_reducible refine cD ?_)))
      (case side8 => exact (Kd.R_reads' HO359.out).2.1)
      rintro e w70 ⟨rfl, hb⟩
      refine ⟨_, rfl, ?_⟩
      replace p0' := xK p0'.out hb
      replace p1' := xK p1'.out hb
      replace p2' := xK p2'.out hb
      replace p3' := xK p3'.out hb
      replace p4' := xK p4'.out hb
      replace p5' := xK p5'.out hb
      replace HO356 := xK HO356.out hb
      replace HO359 := xK HO359.out hb
      replace BK317 := yK BK317.out hb
      replace BK334 := yK BK334.out hb
      replace BK342 := yK BK342.out hb
      replace BK351 := yK BK351.out hb
      replace HB := aM (zT (zH HB.out) hb)
      (try clear hb)
      refine hK.out _ _ ⟨yc BK342.out 0, yc BK342.out 1, yc BK342.out 2, yc BK317.out 0, yc BK317.out 1, yc BK317.out 2⟩ (fun hHeld => ?_)
      clear hK K
      refine norm_ (a' := ?_) ?_ ?_
      rotate_left
      ·show Act.put _ (some 48) _ = _
       simp only [Act.put, qA, qB, qC, i64_w, i32_w]
       rfl
      refine pure_ (i := 4) (N := some 49) (v := ?_) (a' := ?_) #[tT,tT,tT,tT,tT] rfl rfl (by kernel_rfl) (fun _ _ _ h => h) (Or.inl ⟨by rfl, ?_⟩) ?_ ?_
      rotate_left
      ·intro w'
       go_simp
       with_reducible rfl
      rotate_left
      ·simp only [Act.put, qA, qB, qC, i64_w, i32_w]
       rfl
      refine done_ (by kernel_rfl) ?_
      have hnb71 := NB342_317.out
      have hnc71 := NB317_342.out
      have hnb72 := NB342_334.out
      have hnc72 := NB334_342.out
      have hnb73 := NB342_351.out
      have hnc73 := NB351_342.out
      have hcz74_0 : w70.cell? ⟨gb342, 0, none⟩ = some (.int .i64 t335) := yc BK342.out 0
      have hcz74_1 : w70.cell? ⟨gb342, 1, none⟩ = some (.slice Ao32 t336.length co32) := yc BK342.out 1
      have hcz74_2 : w70.cell? ⟨gb342, 2, none⟩ = some (.slice Ao33 t339.length co33) := yc BK342.out 2
      have hfz74_0 := yZ BK342.out 0
      have hfz74_1 := yZ BK342.out 1
      have hfz74_2 := yZ BK342.out 2
      go_upto_region 14 with (first | ((with_reducible refine gate_callee (f := 13) rfl ?_); refine goesL_ (some 52) rfl rfl Try.func13 (by kernel_rfl) rfl #[.agg #[.int .i64 t335, .slice Ao32 t336.length co32, .slice Ao33 t339.length co33], .int .i64 1] rfl (by (try simp only [List.map_toArray, List.map_cons, List.map_nil]); first | done | rfl | (simp only [List.length_drop, List.length_take]; rfl)) ?_; (with_reducible refine (laws_markBuddy.calls kj11 t335 (fun k_ => some k_ = oB Ao32 t336.length co32) (.slice Ao32 t336.length co32) t336 (fun k_ => some k_ = oB Ao33 t339.length co33) (.slice Ao33 t339.length co33) t339 1 t361 t362 t363 w _ ?side1 ?side2 ?side3 ?side4 ?side5 A64.out).mono ?_); (case side1 => repeat (first | (with_reducible first | exact HB.out | apply zA | apply zN | apply zD | refine zS ?_ GE317.out | refine zS ?_ GE334.out | refine zS ?_ GE342.out | refine zS ?_ GE351.out) | exact HB.out)); (case side2 => exact Kd.R_tight rfl p2'.out); (case side3 => exact fun k_ e_ => (p2'.out.1 k_ e_.symm).1.1.2.2.1); (case side4 => exact Kd.R_tight rfl p3'.out); (case side5 => exact fun k_ e_ => (p3'.out.1 k_ e_.symm).1.1.2.2.1); rintro e w75 ⟨rfl, hy0, hy1, hb, hkp⟩; refine ⟨_, rfl, ?_⟩; replace p0' := aM (xM (ok' := fun k_ => some k_ ≠ oB Ao25 t330.length co25 ∧ some k_ ≠ oB Ao32 t336.length co32 ∧ some k_ ≠ oB Ao33 t339.length co33 ∧ some k_ ≠ oB Ao40 t344.length co40 ∧ some k_ ≠ oB Ao41 t347.length co41 ∧ some k_ ≠ oB Ao68 t354.length co68 ∧ some k_ ≠ oB Ao69 t357.length co69) (Kd.R_keptB (p0'.out) hkp (fun k_ hk_ hs_ => Or.elim hs_ (fun e_ => (hk_.1.1.2.1) e_) (fun e_ => (hk_.1.1.2.2.1) e_))) (fun k_ hk_ => ⟨hk_.1.1.1.1, hk_.1.1.1.2.1, hk_.1.1.1.2.2.1, hk_.1.1.1.2.2.2.1, hk_.1.1.1.2.2.2.2, hk_.1.1.2, hk_.1.2⟩)); replace p1' := aM (xM (ok' := fun k_ => some k_ ≠ oB Ao24 t327.length co24 ∧ some k_ ≠ oB Ao32 t336.length co32 ∧ some k_ ≠ oB Ao33 t339.length co33 ∧ some k_ ≠ oB Ao40 t344.length co40 ∧ some k_ ≠ oB Ao41 t347.length co41 ∧ some k_ ≠ oB Ao68 t354.length co68 ∧ some k_ ≠ oB Ao69 t357.length co69) (Kd.R_keptB (p1'.out) hkp (fun k_ hk_ hs_ => Or.elim hs_ (fun e_ => (hk_.1.1.2.1) e_) (fun e_ => (hk_.1.1.2.2.1) e_))) (fun k_ hk_ => ⟨hk_.1.1.1.1, hk_.1.1.1.2.1, hk_.1.1.1.2.2.1, hk_.1.1.1.2.2.2.1, hk_.1.1.1.2.2.2.2, hk_.1.1.2, hk_.1.2⟩)); replace p4' := aM (xM (ok' := fun k_ => some k_ ≠ oB Ao24 t327.length co24 ∧ some k_ ≠ oB Ao25 t330.length co25 ∧ some k_ ≠ oB Ao32 t336.length co32 ∧ some k_ ≠ oB Ao33 t339.length co33 ∧ some k_ ≠ oB Ao41 t347.length co41 ∧ some k_ ≠ oB Ao68 t354.length co68 ∧ some k_ ≠ oB Ao69 t357.length co69) (Kd.R_keptB (p4'.out) hkp (fun k_ hk_ hs_ => Or.elim hs_ (fun e_ => (hk_.1.1.2.2.1) e_) (fun e_ => (hk_.1.1.2.2.2.1) e_))) (fun k_ hk_ => ⟨hk_.1.1.1.1, hk_.1.1.1.2.1, hk_.1.1.1.2.2.1, hk_.1.1.1.2.2.2.1, hk_.1.1.1.2.2.2.2, hk_.1.1.2, hk_.1.2⟩)); replace p5' := aM (xM (ok' := fun k_ => some k_ ≠ oB Ao24 t327.length co24 ∧ some k_ ≠ oB Ao25 t330.length co25 ∧ some k_ ≠ oB Ao32 t336.length co32 ∧ some k_ ≠ oB Ao33 t339.length co33 ∧ some k_ ≠ oB Ao40 t344.length co40 ∧ some k_ ≠ oB Ao68 t354.length co68 ∧ some k_ ≠ oB Ao69 t357.length co69) (Kd.R_keptB (p5'.out) hkp (fun k_ hk_ hs_ => Or.elim hs_ (fun e_ => (hk_.1.1.2.2.1) e_) (fun e_ => (hk_.1.1.2.2.2.1) e_))) (fun k_ hk_ => ⟨hk_.1.1.1.1, hk_.1.1.1.2.1, hk_.1.1.1.2.2.1, hk_.1.1.1.2.2.2.1, hk_.1.1.1.2.2.2.2, hk_.1.1.2, hk_.1.2⟩)); replace BK317 := aM (blk_kept BK317.out hkp (fun hs_ => Or.elim hs_ (fun e_ => (fun e_ => (Kd.R_ne p2'.out BK317.out (by decide)) e_) e_) (fun e_ => (fun e_ => (Kd.R_ne p3'.out BK317.out (by decide)) e_) e_))); replace BK334 := aM (blk_kept BK334.out hkp (fun hs_ => Or.elim hs_ (fun e_ => (fun e_ => (Kd.R_ne p2'.out BK334.out (by decide)) e_) e_) (fun e_ => (fun e_ => (Kd.R_ne p3'.out BK334.out (by decide)) e_) e_))); replace BK342 := aM (blk_kept BK342.out hkp (fun hs_ => Or.elim hs_ (fun e_ => (fun e_ => (Kd.R_ne p2'.out BK342.out (by decide)) e_) e_) (fun e_ => (fun e_ => (Kd.R_ne p3'.out BK342.out (by decide)) e_) e_))); replace BK351 := aM (blk_kept BK351.out hkp (fun hs_ => Or.elim hs_ (fun e_ => (fun e_ => (Kd.R_ne p2'.out BK351.out (by decide)) e_) e_) (fun e_ => (fun e_ => (Kd.R_ne p3'.out BK351.out (by decide)) e_) e_))); replace p2' := aM (Kd.R_reok rfl hy0 (fun k_ e_ => p2'.out.1 k_ e_)); replace p3' := aM (Kd.R_reok rfl hy1 (fun k_ e_ => p3'.out.1 k_ e_)); replace HO356 := aM (xM (ok' := fun k_ => some k_ ≠ oB Ao24 t327.length co24 ∧ some k_ ≠ oB Ao25 t330.length co25 ∧ some k_ ≠ oB Ao32 t336.length co32 ∧ some k_ ≠ oB Ao33 t339.length co33 ∧ some k_ ≠ oB Ao40 t344.length co40 ∧ some k_ ≠ oB Ao41 t347.length co41 ∧ some k_ ≠ oB Ao69 t357.length co69) (Kd.R_keptB (HO356.out) hkp (fun k_ hk_ hs_ => Or.elim hs_ (fun e_ => (hk_.1.1.1.2) e_) (fun e_ => (hk_.1.1.2) e_))) (fun k_ hk_ => ⟨hk_.1.1.1.1.1.1.2, hk_.1.1.1.1.1.2, hk_.1.1.1.1.2, hk_.1.1.1.2, hk_.1.1.2, hk_.1.2, hk_.1.1.1.1.1.1.1⟩)); replace HO359 := aM (xM (ok' := fun k_ => some k_ ≠ oB Ao24 t327.length co24 ∧ some k_ ≠ oB Ao25 t330.length co25 ∧ some k_ ≠ oB Ao32 t336.length co32 ∧ some k_ ≠ oB Ao33 t339.length co33 ∧ some k_ ≠ oB Ao40 t344.length co40 ∧ some k_ ≠ oB Ao41 t347.length co41 ∧ some k_ ≠ oB Ao68 t354.length co68) (Kd.R_keptB (HO359.out) hkp (fun k_ hk_ hs_ => Or.elim hs_ (fun e_ => (hk_.1.1.1.2) e_) (fun e_ => (hk_.1.1.2) e_))) (fun k_ hk_ => ⟨hk_.1.1.1.1.1.1.2, hk_.1.1.1.1.1.2, hk_.1.1.1.1.2, hk_.1.1.1.2, hk_.1.1.2, hk_.1.2, hk_.1.1.1.1.1.1.1⟩)); replace HB := aM (hb); (try clear hb); (try clear hkp); (try clear hy0); (try clear hy1)))
      (try simp only [Act.put, qA, qB, qC])
      go_cut [65] (fun v65 wc => ∃ (kq : Nat) (x65_64 : Bool), v65 = .bool x65_64 ∧ Aside0 (laws_FnExactGiveBlock.j1 kq a1 t333 x65_64 a0_0 l0_1 l0_2 t326 t327 t330 t343 t344 t347 = some r) ∧ Aside0 (kq ≤ kj11) ∧ Aside0 (Kd.R k45 45 wc w.heap.size (fun k_ => some k_ ≠ oB Ao25 t330.length co25 ∧ some k_ ≠ oB Ao32 t336.length co32 ∧ some k_ ≠ oB Ao33 t339.length co33 ∧ some k_ ≠ oB Ao40 t344.length co40 ∧ some k_ ≠ oB Ao41 t347.length co41) (.slice Ao24 t327.length co24) t327) ∧ Aside0 (Kd.R k45 45 wc w.heap.size (fun k_ => some k_ ≠ oB Ao24 t327.length co24 ∧ some k_ ≠ oB Ao32 t336.length co32 ∧ some k_ ≠ oB Ao33 t339.length co33 ∧ some k_ ≠ oB Ao40 t344.length co40 ∧ some k_ ≠ oB Ao41 t347.length co41) (.slice Ao25 t330.length co25) t330) ∧ Aside0 (Kd.R k45 45 wc w.heap.size (fun k_ => some k_ ≠ oB Ao24 t327.length co24 ∧ some k_ ≠ oB Ao25 t330.length co25 ∧ some k_ ≠ oB Ao33 t339.length co33 ∧ some k_ ≠ oB Ao40 t344.length co40 ∧ some k_ ≠ oB Ao41 t347.length co41) (.slice Ao32 t336.length co32) t362) ∧ Aside0 (Kd.R k45 45 wc w.heap.size (fun k_ => some k_ ≠ oB Ao24 t327.length co24 ∧ some k_ ≠ oB Ao25 t330.length co25 ∧ some k_ ≠ oB Ao32 t336.length co32 ∧ some k_ ≠ oB Ao40 t344.length co40 ∧ some k_ ≠ oB Ao41 t347.length co41) (.slice Ao33 t339.length co33) t363) ∧ Aside0 (Kd.R k45 45 wc w.heap.size (fun k_ => some k_ ≠ oB Ao24 t327.length co24 ∧ some k_ ≠ oB Ao25 t330.length co25 ∧ some k_ ≠ oB Ao32 t336.length co32 ∧ some k_ ≠ oB Ao33 t339.length co33 ∧ some k_ ≠ oB Ao41 t347.length co41) (.slice Ao40 t344.length co40) t344) ∧ Aside0 (Kd.R k45 45 wc w.heap.size (fun k_ => some k_ ≠ oB Ao24 t327.length co24 ∧ some k_ ≠ oB Ao25 t330.length co25 ∧ some k_ ≠ oB Ao32 t336.length co32 ∧ some k_ ≠ oB Ao33 t339.length co33 ∧ some k_ ≠ oB Ao40 t344.length co40) (.slice Ao41 t347.length co41) t347) ∧ Aside0 (wc.heap[gb317]? = some (.cells #[.int .i64 a0_0, (.slice A0_1 l0_1.length c0_1), (.slice A0_2 l0_2.length c0_2)] 24 (0, 0))) ∧ Aside0 (wc.heap[gb334]? = some (.cells #[.int .i64 t326, (.slice Ao24 t327.length co24), (.slice Ao25 t330.length co25)] 28 (0, 0))) ∧ Aside0 (wc.heap[gb342]? = some (.cells #[.int .i64 t335, (.slice Ao32 t336.length co32), (.slice Ao33 t339.length co33)] 28 (0, 0))) ∧ Aside0 (wc.heap[gb351]? = some (.cells #[.int .i64 t343, (.slice Ao40 t344.length co40), (.slice Ao41 t347.length co41)] 28 (0, 0))) ∧ Aside0 (Below w.heap.size w wc))
      case first =>
       have H := HC65.out
       clear HC65
       by_cases c76 : t361 < 0
       ·rw [if_pos c76] at H
        have c76b0 : decide (t361 < 0) = true := decide_eq_true c76
        clear c76
        (first | rw [c76b0] | (simp only [i64_w, i32_w]; rw [c76b0]) | skip)
        have H' := aM H
        clear H
        go_wp2
        go_meet
        case rel => exact ⟨_, (true), (by first | rfl | (simp; done) | (simp [*]; done)), H', ⟨by have := HJ11.out; first | omega | exact Nat.le_refl _⟩, ⟨xH (xM p0'.out (fun _ hk => ⟨hk.1, ⟨hk.2.1, ⟨hk.2.2.1, ⟨hk.2.2.2.1, hk.2.2.2.2.1⟩⟩⟩⟩))⟩, ⟨xH (xM p1'.out (fun _ hk => ⟨hk.1, ⟨hk.2.1, ⟨hk.2.2.1, ⟨hk.2.2.2.1, hk.2.2.2.2.1⟩⟩⟩⟩))⟩, ⟨xH (xM p2'.out (fun _ hk => ⟨hk.1.1.1, ⟨hk.1.1.2.1, ⟨hk.1.1.2.2.1, ⟨hk.1.1.2.2.2.1, hk.1.1.2.2.2.2⟩⟩⟩⟩))⟩, ⟨xH (xM p3'.out (fun _ hk => ⟨hk.1.1.1, ⟨hk.1.1.2.1, ⟨hk.1.1.2.2.1, ⟨hk.1.1.2.2.2.1, hk.1.1.2.2.2.2⟩⟩⟩⟩))⟩, ⟨xH (xM p4'.out (fun _ hk => ⟨hk.1, ⟨hk.2.1, ⟨hk.2.2.1, ⟨hk.2.2.2.1, hk.2.2.2.2.1⟩⟩⟩⟩))⟩, ⟨xH (xM p5'.out (fun _ hk => ⟨hk.1, ⟨hk.2.1, ⟨hk.2.2.1, ⟨hk.2.2.2.1, hk.2.2.2.2.1⟩⟩⟩⟩))⟩, ⟨yH BK317.out⟩, ⟨yH BK334.out⟩, ⟨yH BK342.out⟩, ⟨yH BK351.out⟩, ⟨zH HB.out⟩⟩
       ·rw [if_neg c76] at H
        have c76b0 : decide (t361 < 0) = false := decide_eq_false c76
        clear c76
        (first | rw [c76b0] | (simp only [i64_w, i32_w]; rw [c76b0]) | skip)
        replace H := Option.bind_eq_some_iff.mp H
        obtain ⟨t364, A770, H⟩ := H
        replace H : (if t364 = true then (laws_FnExactGiveBlock.j1 kj11 a1 t333 (t350 != t333) a0_0 l0_1 l0_2 t326 t327 t330 t343 t344 t347) else (laws_FnExactGiveBlock.j1 kj11 a1 t333 true a0_0 l0_1 l0_2 t326 t327 t330 t343 t344 t347)) = some r := H
        have A77 := aM A770
        clear A770
        by_cases c78 : t364 = true
        ·subst c78
         have H1 : (laws_FnExactGiveBlock.j1 kj11 a1 t333 (t350 != t333) a0_0 l0_1 l0_2 t326 t327 t330 t343 t344 t347) = some r := by rw [if_pos rfl] at H; exact H
         clear H
         have H := H1
         clear H1
         have H' := aM H
         clear H
         have hnb79 := NB351_317.out
         have hnc79 := NB317_351.out
         have hnb80 := NB351_334.out
         have hnc80 := NB334_351.out
         have hnb81 := NB351_342.out
         have hnc81 := NB342_351.out
         have hcz82_0 : w75.cell? ⟨gb351, 0, none⟩ = some (.int .i64 t343) := yc BK351.out 0
         have hcz82_1 : w75.cell? ⟨gb351, 1, none⟩ = some (.slice Ao40 t344.length co40) := yc BK351.out 1
         have hcz82_2 : w75.cell? ⟨gb351, 2, none⟩ = some (.slice Ao41 t347.length co41) := yc BK351.out 2
         have hfz82_0 := yZ BK351.out 0
         have hfz82_1 := yZ BK351.out 1
         have hfz82_2 := yZ BK351.out 2
         have hnb83 := NB334_317.out
         have hnc83 := NB317_334.out
         have hnb84 := NB334_342.out
         have hnc84 := NB342_334.out
         have hcz85_0 : w75.cell? ⟨gb334, 0, none⟩ = some (.int .i64 t326) := yc BK334.out 0
         have hcz85_1 : w75.cell? ⟨gb334, 1, none⟩ = some (.slice Ao24 t327.length co24) := yc BK334.out 1
         have hcz85_2 : w75.cell? ⟨gb334, 2, none⟩ = some (.slice Ao25 t330.length co25) := yc BK334.out 2
         have hfz85_0 := yZ BK334.out 0
         have hfz85_1 := yZ BK334.out 1
         have hfz85_2 := yZ BK334.out 2
         go_wp2_with (first | (go_at_call 12; (with_reducible refine (laws_eqBuddy.calls kj11 t343 _ _ t344 _ _ t347 t326 _ _ t327 _ _ t330 true _ ?side1 ?side2 ?side3 ?side4 ?side5 ?side6 ?side7 ?side8 A77.out).mono ?_); (case side1 => repeat (first | exact (Kd.R_reads' p4'.out).2.2 | (with_reducible refine cA ?_ _) | (with_reducible refine cN ?_ _) | (with_reducible refine cD ?_))); (case side2 => exact (Kd.R_reads' p4'.out).2.1); (case side3 => repeat (first | exact (Kd.R_reads' p5'.out).2.2 | (with_reducible refine cA ?_ _) | (with_reducible refine cN ?_ _) | (with_reducible refine cD ?_))); (case side4 => exact (Kd.R_reads' p5'.out).2.1); (case side5 => repeat (first | exact (Kd.R_reads' p0'.out).2.2 | (with_reducible refine cA ?_ _) | (with_reducible refine cN ?_ _) | (with_reducible refine cD ?_))); (case side6 => exact (Kd.R_reads' p0'.out).2.1); (case side7 => repeat (first | exact (Kd.R_reads' p1'.out).2.2 | (with_reducible refine cA ?_ _) | (with_reducible refine cN ?_ _) | (with_reducible refine cD ?_))); (case side8 => exact (Kd.R_reads' p1'.out).2.1); rintro e w86 ⟨rfl, hb⟩; replace p0' := xK p0'.out hb; replace p1' := xK p1'.out hb; replace p2' := xK p2'.out hb; replace p3' := xK p3'.out hb; replace p4' := xK p4'.out hb; replace p5' := xK p5'.out hb; replace HO356 := xK HO356.out hb; replace HO359 := xK HO359.out hb; replace BK317 := yK BK317.out hb; replace BK334 := yK BK334.out hb; replace BK342 := yK BK342.out hb; replace BK351 := yK BK351.out hb; replace HB := aM (zT (zH HB.out) hb); (try clear hb)))
         go_meet
         case rel => exact ⟨_, ((t350 != t333)), (by first | rfl | (simp; done) | (simp [*]; done)), H', ⟨by have := HJ11.out; first | omega | exact Nat.le_refl _⟩, ⟨xH (xM p0'.out (fun _ hk => ⟨hk.1, ⟨hk.2.1, ⟨hk.2.2.1, ⟨hk.2.2.2.1, hk.2.2.2.2.1⟩⟩⟩⟩))⟩, ⟨xH (xM p1'.out (fun _ hk => ⟨hk.1, ⟨hk.2.1, ⟨hk.2.2.1, ⟨hk.2.2.2.1, hk.2.2.2.2.1⟩⟩⟩⟩))⟩, ⟨xH (xM p2'.out (fun _ hk => ⟨hk.1.1.1, ⟨hk.1.1.2.1, ⟨hk.1.1.2.2.1, ⟨hk.1.1.2.2.2.1, hk.1.1.2.2.2.2⟩⟩⟩⟩))⟩, ⟨xH (xM p3'.out (fun _ hk => ⟨hk.1.1.1, ⟨hk.1.1.2.1, ⟨hk.1.1.2.2.1, ⟨hk.1.1.2.2.2.1, hk.1.1.2.2.2.2⟩⟩⟩⟩))⟩, ⟨xH (xM p4'.out (fun _ hk => ⟨hk.1, ⟨hk.2.1, ⟨hk.2.2.1, ⟨hk.2.2.2.1, hk.2.2.2.2.1⟩⟩⟩⟩))⟩, ⟨xH (xM p5'.out (fun _ hk => ⟨hk.1, ⟨hk.2.1, ⟨hk.2.2.1, ⟨hk.2.2.2.1, hk.2.2.2.2.1⟩⟩⟩⟩))⟩, ⟨yH BK317.out⟩, ⟨yH BK334.out⟩, ⟨yH BK342.out⟩, ⟨yH BK351.out⟩, ⟨zH HB.out⟩⟩
        ·replace c78 := Bool.eq_false_iff.mpr c78
         subst c78
         have H1 : (laws_FnExactGiveBlock.j1 kj11 a1 t333 true a0_0 l0_1 l0_2 t326 t327 t330 t343 t344 t347) = some r := by rw [if_neg (show ¬ (false = true) by decide)] at H; exact H
         clear H
         have H := H1
         clear H1
         have H' := aM H
         clear H
         have hnb87 := NB351_317.out
         have hnc87 := NB317_351.out
         have hnb88 := NB351_334.out
         have hnc88 := NB334_351.out
         have hnb89 := NB351_342.out
         have hnc89 := NB342_351.out
         have hcz90_0 : w75.cell? ⟨gb351, 0, none⟩ = some (.int .i64 t343) := yc BK351.out 0
         have hcz90_1 : w75.cell? ⟨gb351, 1, none⟩ = some (.slice Ao40 t344.length co40) := yc BK351.out 1
         have hcz90_2 : w75.cell? ⟨gb351, 2, none⟩ = some (.slice Ao41 t347.length co41) := yc BK351.out 2
         have hfz90_0 := yZ BK351.out 0
         have hfz90_1 := yZ BK351.out 1
         have hfz90_2 := yZ BK351.out 2
         have hnb91 := NB334_317.out
         have hnc91 := NB317_334.out
         have hnb92 := NB334_342.out
         have hnc92 := NB342_334.out
         have hcz93_0 : w75.cell? ⟨gb334, 0, none⟩ = some (.int .i64 t326) := yc BK334.out 0
         have hcz93_1 : w75.cell? ⟨gb334, 1, none⟩ = some (.slice Ao24 t327.length co24) := yc BK334.out 1
         have hcz93_2 : w75.cell? ⟨gb334, 2, none⟩ = some (.slice Ao25 t330.length co25) := yc BK334.out 2
         have hfz93_0 := yZ BK334.out 0
         have hfz93_1 := yZ BK334.out 1
         have hfz93_2 := yZ BK334.out 2
         go_wp2_with (first | (go_at_call 12; (with_reducible refine (laws_eqBuddy.calls kj11 t343 _ _ t344 _ _ t347 t326 _ _ t327 _ _ t330 false _ ?side1 ?side2 ?side3 ?side4 ?side5 ?side6 ?side7 ?side8 A77.out).mono ?_); (case side1 => repeat (first | exact (Kd.R_reads' p4'.out).2.2 | (with_reducible refine cA ?_ _) | (with_reducible refine cN ?_ _) | (with_reducible refine cD ?_))); (case side2 => exact (Kd.R_reads' p4'.out).2.1); (case side3 => repeat (first | exact (Kd.R_reads' p5'.out).2.2 | (with_reducible refine cA ?_ _) | (with_reducible refine cN ?_ _) | (with_reducible refine cD ?_))); (case side4 => exact (Kd.R_reads' p5'.out).2.1); (case side5 => repeat (first | exact (Kd.R_reads' p0'.out).2.2 | (with_reducible refine cA ?_ _) | (with_reducible refine cN ?_ _) | (with_reducible refine cD ?_))); (case side6 => exact (Kd.R_reads' p0'.out).2.1); (case side7 => repeat (first | exact (Kd.R_reads' p1'.out).2.2 | (with_reducible refine cA ?_ _) | (with_reducible refine cN ?_ _) | (with_reducible refine cD ?_))); (case side8 => exact (Kd.R_reads' p1'.out).2.1); rintro e w94 ⟨rfl, hb⟩; replace p0' := xK p0'.out hb; replace p1' := xK p1'.out hb; replace p2' := xK p2'.out hb; replace p3' := xK p3'.out hb; replace p4' := xK p4'.out hb; replace p5' := xK p5'.out hb; replace HO356 := xK HO356.out hb; replace HO359 := xK HO359.out hb; replace BK317 := yK BK317.out hb; replace BK334 := yK BK334.out hb; replace BK342 := yK BK342.out hb; replace BK351 := yK BK351.out hb; replace HB := aM (zT (zH HB.out) hb); (try clear hb)))
         go_meet
         case rel => exact ⟨_, (true), (by first | rfl | (simp; done) | (simp [*]; done)), H', ⟨by have := HJ11.out; first | omega | exact Nat.le_refl _⟩, ⟨xH (xM p0'.out (fun _ hk => ⟨hk.1, ⟨hk.2.1, ⟨hk.2.2.1, ⟨hk.2.2.2.1, hk.2.2.2.2.1⟩⟩⟩⟩))⟩, ⟨xH (xM p1'.out (fun _ hk => ⟨hk.1, ⟨hk.2.1, ⟨hk.2.2.1, ⟨hk.2.2.2.1, hk.2.2.2.2.1⟩⟩⟩⟩))⟩, ⟨xH (xM p2'.out (fun _ hk => ⟨hk.1.1.1, ⟨hk.1.1.2.1, ⟨hk.1.1.2.2.1, ⟨hk.1.1.2.2.2.1, hk.1.1.2.2.2.2⟩⟩⟩⟩))⟩, ⟨xH (xM p3'.out (fun _ hk => ⟨hk.1.1.1, ⟨hk.1.1.2.1, ⟨hk.1.1.2.2.1, ⟨hk.1.1.2.2.2.1, hk.1.1.2.2.2.2⟩⟩⟩⟩))⟩, ⟨xH (xM p4'.out (fun _ hk => ⟨hk.1, ⟨hk.2.1, ⟨hk.2.2.1, ⟨hk.2.2.2.1, hk.2.2.2.2.1⟩⟩⟩⟩))⟩, ⟨xH (xM p5'.out (fun _ hk => ⟨hk.1, ⟨hk.2.1, ⟨hk.2.2.1, ⟨hk.2.2.2.1, hk.2.2.2.2.1⟩⟩⟩⟩))⟩, ⟨yH BK317.out⟩, ⟨yH BK334.out⟩, ⟨yH BK342.out⟩, ⟨yH BK351.out⟩, ⟨zH HB.out⟩⟩
      case rest =>
       clear HC65
       (try clear c1); (try clear c2); (try clear p2); (try clear c3); (try clear c4); (try clear c4b0); (try clear c5); (try clear c6); (try clear c7); (try clear c8); (try clear c9); (try clear c10); (try clear c11); (try clear c12); (try clear c13); (try clear c22); (try clear c29); (try clear c30); (try clear c36); (try clear c37); (try clear c38); (try clear c43); (try clear c44); (try clear c45); (try clear c46); (try clear c48); (try clear c49); (try clear c52); (try clear c53); (try clear c54); (try clear c56); (try clear c57); (try clear c60); (try clear c63); (try clear c71); (try clear c72); (try clear c73); (try clear c76); (try clear c76b0); (try clear c78); (try clear c79); (try clear c80); (try clear c81); (try clear c83); (try clear c84); (try clear c87); (try clear c88); (try clear c89); (try clear c91); (try clear c92); (try clear hcz14_0); (try clear hcz14_1); (try clear hcz14_2); (try clear hcz16_0); (try clear hcz16_1); (try clear hcz16_2); (try clear hcz23_0); (try clear hcz23_1); (try clear hcz23_2); (try clear hcz26_0); (try clear hcz26_1); (try clear hcz26_2); (try clear hcz31_0); (try clear hcz31_1); (try clear hcz31_2); (try clear hcz39_0); (try clear hcz39_1); (try clear hcz39_2); (try clear hcz47_0); (try clear hcz47_1); (try clear hcz47_2); (try clear hcz50_0); (try clear hcz50_1); (try clear hcz50_2); (try clear hcz55_0); (try clear hcz55_1); (try clear hcz55_2); (try clear hcz58_0); (try clear hcz58_1); (try clear hcz58_2); (try clear hcz6_0); (try clear hcz6_1); (try clear hcz6_2); (try clear hcz74_0); (try clear hcz74_1); (try clear hcz74_2); (try clear hcz82_0); (try clear hcz82_1); (try clear hcz82_2); (try clear hcz85_0); (try clear hcz85_1); (try clear hcz85_2); (try clear hcz90_0); (try clear hcz90_1); (try clear hcz90_2); (try clear hcz93_0); (try clear hcz93_1); (try clear hcz93_2); (try clear hfz14_0); (try clear hfz14_1); (try clear hfz14_2); (try clear hfz16_0); (try clear hfz16_1); (try clear hfz16_2); (try clear hfz23_0); (try clear hfz23_1); (try clear hfz23_2); (try clear hfz26_0); (try clear hfz26_1); (try clear hfz26_2); (try clear hfz31_0); (try clear hfz31_1); (try clear hfz31_2); (try clear hfz39_0); (try clear hfz39_1); (try clear hfz39_2); (try clear hfz47_0); (try clear hfz47_1); (try clear hfz47_2); (try clear hfz50_0); (try clear hfz50_1); (try clear hfz50_2); (try clear hfz55_0); (try clear hfz55_1); (try clear hfz55_2); (try clear hfz58_0); (try clear hfz58_1); (try clear hfz58_2); (try clear hfz6_0); (try clear hfz6_1); (try clear hfz6_2); (try clear hfz74_0); (try clear hfz74_1); (try clear hfz74_2); (try clear hfz82_0); (try clear hfz82_1); (try clear hfz82_2); (try clear hfz85_0); (try clear hfz85_1); (try clear hfz85_2); (try clear hfz90_0); (try clear hfz90_1); (try clear hfz90_2); (try clear hfz93_0); (try clear hfz93_1); (try clear hfz93_2); (try clear p2)
       obtain ⟨kq, x65_64, rfl, HA, HJ64, p0', p1', p2', p3', p4', p5', BK317, BK334, BK342, BK351, HB⟩ := hcut
       have hl343001_64 := (Kd.R_reads' p2'.out).1
       rw [hl343001_64] at p2'
       (try simp only [hl343001_64])
       (try simp only [hl343001_64] at BK317)
       (try simp only [hl343001_64] at BK334)
       (try simp only [hl343001_64] at BK342)
       (try simp only [hl343001_64] at BK351)
       (try simp only [hl343001_64] at p0')
       (try simp only [hl343001_64] at p1')
       (try simp only [hl343001_64] at p3')
       (try simp only [hl343001_64] at p4')
       (try simp only [hl343001_64] at p5')
       have hl343002_64 := (Kd.R_reads' p3'.out).1
       rw [hl343002_64] at p3'
       (try simp only [hl343002_64])
       (try simp only [hl343002_64] at BK317)
       (try simp only [hl343002_64] at BK334)
       (try simp only [hl343002_64] at BK342)
       (try simp only [hl343002_64] at BK351)
       (try simp only [hl343002_64] at p0')
       (try simp only [hl343002_64] at p1')
       (try simp only [hl343002_64] at p2')
       (try simp only [hl343002_64] at p4')
       (try simp only [hl343002_64] at p5')
       cases kq with
       | zero => exact absurd HA.out (fun h_ => by change none = some _ at h_; cases h_)
       | succ kj64 =>
        have H := HA.out
        clear HA
        simp only [laws_FnExactGiveBlock.j1] at H
        by_cases c95 : x65_64 = true
        ·subst c95
         have H1 : (some false) = some r := by rw [if_pos rfl] at H; exact H
         clear H
         have H := H1
         clear H1
         exact absurd (H.trans (congrArg some HR_.out)) (by decide)
        ·replace c95 := Bool.eq_false_iff.mpr c95
         subst c95
         have H1 : ((laws_markBuddy.f kj64 t343 t344 t347 1).bind fun bt365 => ((laws_heldBuddy.f kj64 t343 bt365.2.1 bt365.2.2 1).bind fun t368 => (if t368 < 0 then (some false) else (if t368 = bt365.1 then ((laws_toBuddy.f kj64 a0_0 l0_1 l0_2).bind fun bt369 => ((impl_GiveBlock.f kj64 bt369.1 bt369.2.1 bt369.2.2 a1).bind fun bt376 => ((laws_eqBuddy.f kj64 bt376.1 bt376.2.1 bt376.2.2.1 t326 t327 t330).bind fun t385 => (if t385 = true then (laws_FnExactGiveBlock.j2 kj64 bt365.1 (bt376.2.2.2 != t333) t343 bt365.2.1 bt365.2.2) else (laws_FnExactGiveBlock.j2 kj64 bt365.1 true t343 bt365.2.1 bt365.2.2))))) else (some false))))) = some r := by rw [if_neg (show ¬ (false = true) by decide)] at H; exact H
         clear H
         have H := H1
         clear H1
         replace H := Option.bind_eq_some_iff.mp H
         obtain ⟨⟨t365, t366, t367⟩, A960, H⟩ := H
         replace H : ((laws_heldBuddy.f kj64 t343 t366 t367 1).bind fun t368 => (if t368 < 0 then (some false) else (if t368 = t365 then ((laws_toBuddy.f kj64 a0_0 l0_1 l0_2).bind fun bt369 => ((impl_GiveBlock.f kj64 bt369.1 bt369.2.1 bt369.2.2 a1).bind fun bt376 => ((laws_eqBuddy.f kj64 bt376.1 bt376.2.1 bt376.2.2.1 t326 t327 t330).bind fun t385 => (if t385 = true then (laws_FnExactGiveBlock.j2 kj64 t365 (bt376.2.2.2 != t333) t343 t366 t367) else (laws_FnExactGiveBlock.j2 kj64 t365 true t343 t366 t367))))) else (some false)))) = some r := H
         have A96 := aM A960
         clear A960
         replace H := Option.bind_eq_some_iff.mp H
         obtain ⟨t368, A970, H⟩ := H
         replace H : (if t368 < 0 then (some false) else (if t368 = t365 then ((laws_toBuddy.f kj64 a0_0 l0_1 l0_2).bind fun bt369 => ((impl_GiveBlock.f kj64 bt369.1 bt369.2.1 bt369.2.2 a1).bind fun bt376 => ((laws_eqBuddy.f kj64 bt376.1 bt376.2.1 bt376.2.2.1 t326 t327 t330).bind fun t385 => (if t385 = true then (laws_FnExactGiveBlock.j2 kj64 t365 (bt376.2.2.2 != t333) t343 t366 t367) else (laws_FnExactGiveBlock.j2 kj64 t365 true t343 t366 t367))))) else (some false))) = some r := H
         have A97 := aM A970
         clear A970
         by_cases c98 : t368 < 0
         ·rw [if_pos c98] at H
          have c98b0 : decide (t368 < 0) = true := decide_eq_true c98
          clear c98
          obtain rfl := Option.some.inj H
          have hnb99 := NB351_317.out
          have hnc99 := NB317_351.out
          have hnb100 := NB351_334.out
          have hnc100 := NB334_351.out
          have hnb101 := NB351_342.out
          have hnc101 := NB342_351.out
          have hcz102_0 : wc.cell? ⟨gb351, 0, none⟩ = some (.int .i64 t343) := yc BK351.out 0
          have hcz102_1 : wc.cell? ⟨gb351, 1, none⟩ = some (.slice Ao40 t344.length co40) := yc BK351.out 1
          have hcz102_2 : wc.cell? ⟨gb351, 2, none⟩ = some (.slice Ao41 t347.length co41) := yc BK351.out 2
          have hfz102_0 := yZ BK351.out 0
          have hfz102_1 := yZ BK351.out 1
          have hfz102_2 := yZ BK351.out 2
          go_wp2_with (first | ((with_reducible refine gate_callee (f := 13) rfl ?_); refine goesL_ (some 68) rfl rfl Try.func13 (by kernel_rfl) rfl #[.agg #[.int .i64 t343, .slice Ao40 t344.length co40, .slice Ao41 t347.length co41], .int .i64 1] rfl (by (try simp only [List.map_toArray, List.map_cons, List.map_nil]); first | done | rfl | (simp only [List.length_drop, List.length_take]; rfl)) ?_; (with_reducible refine (laws_markBuddy.calls kj64 t343 (fun k_ => some k_ = oB Ao40 t344.length co40) (.slice Ao40 t344.length co40) t344 (fun k_ => some k_ = oB Ao41 t347.length co41) (.slice Ao41 t347.length co41) t347 1 t365 t366 t367 w _ ?side1 ?side2 ?side3 ?side4 ?side5 A96.out).mono ?_); (case side1 => repeat (first | (with_reducible first | exact HB.out | apply zA | apply zN | apply zD | refine zS ?_ GE317.out | refine zS ?_ GE334.out | refine zS ?_ GE342.out | refine zS ?_ GE351.out) | exact HB.out)); (case side2 => exact Kd.R_tight rfl p4'.out); (case side3 => exact fun k_ e_ => (p4'.out.1 k_ e_.symm).2.2.2.2); (case side4 => exact Kd.R_tight rfl p5'.out); (case side5 => exact fun k_ e_ => (p5'.out.1 k_ e_.symm).2.2.2.2); rintro e w103 ⟨rfl, hy0, hy1, hb, hkp⟩; refine ⟨_, rfl, ?_⟩; replace p0' := kB p0'.out hkp (fun k_ hk_ hs_ => Or.elim hs_ (fun e_ => (hk_.2.2.2.1) e_) (fun e_ => (hk_.2.2.2.2) e_)); replace p1' := kB p1'.out hkp (fun k_ hk_ hs_ => Or.elim hs_ (fun e_ => (hk_.2.2.2.1) e_) (fun e_ => (hk_.2.2.2.2) e_)); replace p2' := kB p2'.out hkp (fun k_ hk_ hs_ => Or.elim hs_ (fun e_ => (hk_.2.2.2.1) e_) (fun e_ => (hk_.2.2.2.2) e_)); replace p3' := kB p3'.out hkp (fun k_ hk_ hs_ => Or.elim hs_ (fun e_ => (hk_.2.2.2.1) e_) (fun e_ => (hk_.2.2.2.2) e_)); replace BK317 := aM (blk_kept BK317.out hkp (fun hs_ => Or.elim hs_ (fun e_ => (fun e_ => (Kd.R_ne p4'.out BK317.out (by decide)) e_) e_) (fun e_ => (fun e_ => (Kd.R_ne p5'.out BK317.out (by decide)) e_) e_))); replace BK334 := aM (blk_kept BK334.out hkp (fun hs_ => Or.elim hs_ (fun e_ => (fun e_ => (Kd.R_ne p4'.out BK334.out (by decide)) e_) e_) (fun e_ => (fun e_ => (Kd.R_ne p5'.out BK334.out (by decide)) e_) e_))); replace BK342 := aM (blk_kept BK342.out hkp (fun hs_ => Or.elim hs_ (fun e_ => (fun e_ => (Kd.R_ne p4'.out BK342.out (by decide)) e_) e_) (fun e_ => (fun e_ => (Kd.R_ne p5'.out BK342.out (by decide)) e_) e_))); replace BK351 := aM (blk_kept BK351.out hkp (fun hs_ => Or.elim hs_ (fun e_ => (fun e_ => (Kd.R_ne p4'.out BK351.out (by decide)) e_) e_) (fun e_ => (fun e_ => (Kd.R_ne p5'.out BK351.out (by decide)) e_) e_))); replace p4' := aM (Kd.R_reok rfl hy0 (fun k_ e_ => p4'.out.1 k_ e_)); replace p5' := aM (Kd.R_reok rfl hy1 (fun k_ e_ => p5'.out.1 k_ e_)); replace HB := aM (hb); (try clear hb); (try clear hkp); (try clear hy0); (try clear hy1); have hcz104_0 : w103.cell? ⟨gb351, 0, none⟩ = some (.int .i64 t343) := yc BK351.out 0; have hcz104_1 : w103.cell? ⟨gb351, 1, none⟩ = some (.slice Ao40 t344.length co40) := yc BK351.out 1; have hcz104_2 : w103.cell? ⟨gb351, 2, none⟩ = some (.slice Ao41 t347.length co41) := yc BK351.out 2; have hfz104_0 := yZ BK351.out 0; have hfz104_1 := yZ BK351.out 1; have hfz104_2 := yZ BK351.out 2) | ((with_reducible refine gate_callee (f := 14) rfl ?_); refine goesL_ (some 71) rfl rfl Try.func14 (by kernel_rfl) rfl #[.agg #[.int .i64 t343, .slice Ao40 t366.length co40, .slice Ao41 t367.length co41], .int .i64 1] rfl (by (try simp only [List.map_toArray, List.map_cons, List.map_nil]); first | done | (rw [show t366.length = t344.length from (Kd.R_reads' p4'.out).1.symm, show t367.length = t347.length from (Kd.R_reads' p5'.out).1.symm] <;> rfl) | rfl | (simp only [List.length_drop, List.length_take]; rfl)) ?_; (with_reducible refine (laws_heldBuddy.calls kj64 t343 _ _ t366 _ _ t367 1 t368 _ ?side1 ?side2 ?side3 ?side4 A97.out).mono ?_); (case side1 => repeat (first | exact (Kd.R_reads' p4'.out).2.2 | (with_reducible refine cA ?_ _) | (with_reducible refine cN ?_ _) | (with_reducible refine cD ?_))); (case side2 => rw [show t366.length = t344.length from (Kd.R_reads' p4'.out).1.symm]; exact (Kd.R_reads' p4'.out).2.1); (case side3 => repeat (first | exact (Kd.R_reads' p5'.out).2.2 | (with_reducible refine cA ?_ _) | (with_reducible refine cN ?_ _) | (with_reducible refine cD ?_))); (case side4 => rw [show t367.length = t347.length from (Kd.R_reads' p5'.out).1.symm]; exact (Kd.R_reads' p5'.out).2.1); rintro e w105 ⟨rfl, hb⟩; refine ⟨_, rfl, ?_⟩; replace p0' := xK p0'.out hb; replace p1' := xK p1'.out hb; replace p2' := xK p2'.out hb; replace p3' := xK p3'.out hb; replace p4' := xK p4'.out hb; replace p5' := xK p5'.out hb; replace BK317 := yK BK317.out hb; replace BK334 := yK BK334.out hb; replace BK342 := yK BK342.out hb; replace BK351 := yK BK351.out hb; replace HB := aM (zT (zH HB.out) hb); (try clear hb)))
          go_ret
          exact ⟨by first | rfl | (simp [errW_none, errW_some] <;> rfl) | (simp [*, errW_none, errW_some] <;> rfl), zH HB.out⟩
         ·rw [if_neg c98] at H
          have c98b0 : decide (t368 < 0) = false := decide_eq_false c98
          clear c98
          by_cases c106 : t368 = t365
          ·rw [if_pos c106] at H
           have c106b0 : (t368 == t365) = true := beq_iff_eq.mpr c106
           have c106b1 : (t368 != t365) = false := bne_eq_false_iff_eq.mpr c106
           clear c106
           replace H := Option.bind_eq_some_iff.mp H
           obtain ⟨⟨t369, t370, t373⟩, A1070, H⟩ := H
           replace H : ((impl_GiveBlock.f kj64 t369 t370 t373 a1).bind fun bt376 => ((laws_eqBuddy.f kj64 bt376.1 bt376.2.1 bt376.2.2.1 t326 t327 t330).bind fun t385 => (if t385 = true then (laws_FnExactGiveBlock.j2 kj64 t365 (bt376.2.2.2 != t333) t343 t366 t367) else (laws_FnExactGiveBlock.j2 kj64 t365 true t343 t366 t367)))) = some r := H
           have A107 := aM A1070
           clear A1070
           replace H := Option.bind_eq_some_iff.mp H
           obtain ⟨⟨t376, t377, t380, t383⟩, A1080, H⟩ := H
           replace H : ((laws_eqBuddy.f kj64 t376 t377 t380 t326 t327 t330).bind fun t385 => (if t385 = true then (laws_FnExactGiveBlock.j2 kj64 t365 (t383 != t333) t343 t366 t367) else (laws_FnExactGiveBlock.j2 kj64 t365 true t343 t366 t367))) = some r := H
           have A108 := aM A1080
           clear A1080
           have HC109 := aM H
           clear H
           have hnb110 := NB351_317.out
           have hnc110 := NB317_351.out
           have hnb111 := NB351_334.out
           have hnc111 := NB334_351.out
           have hnb112 := NB351_342.out
           have hnc112 := NB342_351.out
           have hcz113_0 : wc.cell? ⟨gb351, 0, none⟩ = some (.int .i64 t343) := yc BK351.out 0
           have hcz113_1 : wc.cell? ⟨gb351, 1, none⟩ = some (.slice Ao40 t344.length co40) := yc BK351.out 1
           have hcz113_2 : wc.cell? ⟨gb351, 2, none⟩ = some (.slice Ao41 t347.length co41) := yc BK351.out 2
           have hfz113_0 := yZ BK351.out 0
           have hfz113_1 := yZ BK351.out 1
           have hfz113_2 := yZ BK351.out 2
           go_upto_region 25 with (first | ((with_reducible refine gate_callee (f := 13) rfl ?_); refine goesL_ (some 68) rfl rfl Try.func13 (by kernel_rfl) rfl #[.agg #[.int .i64 t343, .slice Ao40 t344.length co40, .slice Ao41 t347.length co41], .int .i64 1] rfl (by (try simp only [List.map_toArray, List.map_cons, List.map_nil]); first | done | rfl | (simp only [List.length_drop, List.length_take]; rfl)) ?_; (with_reducible refine (laws_markBuddy.calls kj64 t343 (fun k_ => some k_ = oB Ao40 t344.length co40) (.slice Ao40 t344.length co40) t344 (fun k_ => some k_ = oB Ao41 t347.length co41) (.slice Ao41 t347.length co41) t347 1 t365 t366 t367 w _ ?side1 ?side2 ?side3 ?side4 ?side5 A96.out).mono ?_); (case side1 => repeat (first | (with_reducible first | exact HB.out | apply zA | apply zN | apply zD | refine zS ?_ GE317.out | refine zS ?_ GE334.out | refine zS ?_ GE342.out | refine zS ?_ GE351.out) | exact HB.out)); (case side2 => exact Kd.R_tight rfl p4'.out); (case side3 => exact fun k_ e_ => (p4'.out.1 k_ e_.symm).2.2.2.2); (case side4 => exact Kd.R_tight rfl p5'.out); (case side5 => exact fun k_ e_ => (p5'.out.1 k_ e_.symm).2.2.2.2); rintro e w114 ⟨rfl, hy0, hy1, hb, hkp⟩; refine ⟨_, rfl, ?_⟩; replace p0' := kB p0'.out hkp (fun k_ hk_ hs_ => Or.elim hs_ (fun e_ => (hk_.2.2.2.1) e_) (fun e_ => (hk_.2.2.2.2) e_)); replace p1' := kB p1'.out hkp (fun k_ hk_ hs_ => Or.elim hs_ (fun e_ => (hk_.2.2.2.1) e_) (fun e_ => (hk_.2.2.2.2) e_)); replace p2' := kB p2'.out hkp (fun k_ hk_ hs_ => Or.elim hs_ (fun e_ => (hk_.2.2.2.1) e_) (fun e_ => (hk_.2.2.2.2) e_)); replace p3' := kB p3'.out hkp (fun k_ hk_ hs_ => Or.elim hs_ (fun e_ => (hk_.2.2.2.1) e_) (fun e_ => (hk_.2.2.2.2) e_)); replace BK317 := aM (blk_kept BK317.out hkp (fun hs_ => Or.elim hs_ (fun e_ => (fun e_ => (Kd.R_ne p4'.out BK317.out (by decide)) e_) e_) (fun e_ => (fun e_ => (Kd.R_ne p5'.out BK317.out (by decide)) e_) e_))); replace BK334 := aM (blk_kept BK334.out hkp (fun hs_ => Or.elim hs_ (fun e_ => (fun e_ => (Kd.R_ne p4'.out BK334.out (by decide)) e_) e_) (fun e_ => (fun e_ => (Kd.R_ne p5'.out BK334.out (by decide)) e_) e_))); replace BK342 := aM (blk_kept BK342.out hkp (fun hs_ => Or.elim hs_ (fun e_ => (fun e_ => (Kd.R_ne p4'.out BK342.out (by decide)) e_) e_) (fun e_ => (fun e_ => (Kd.R_ne p5'.out BK342.out (by decide)) e_) e_))); replace BK351 := aM (blk_kept BK351.out hkp (fun hs_ => Or.elim hs_ (fun e_ => (fun e_ => (Kd.R_ne p4'.out BK351.out (by decide)) e_) e_) (fun e_ => (fun e_ => (Kd.R_ne p5'.out BK351.out (by decide)) e_) e_))); replace p4' := aM (Kd.R_reok rfl hy0 (fun k_ e_ => p4'.out.1 k_ e_)); replace p5' := aM (Kd.R_reok rfl hy1 (fun k_ e_ => p5'.out.1 k_ e_)); replace HB := aM (hb); (try clear hb); (try clear hkp); (try clear hy0); (try clear hy1); have hcz115_0 : w114.cell? ⟨gb351, 0, none⟩ = some (.int .i64 t343) := yc BK351.out 0; have hcz115_1 : w114.cell? ⟨gb351, 1, none⟩ = some (.slice Ao40 t344.length co40) := yc BK351.out 1; have hcz115_2 : w114.cell? ⟨gb351, 2, none⟩ = some (.slice Ao41 t347.length co41) := yc BK351.out 2; have hfz115_0 := yZ BK351.out 0; have hfz115_1 := yZ BK351.out 1; have hfz115_2 := yZ BK351.out 2) | ((with_reducible refine gate_callee (f := 14) rfl ?_); refine goesL_ (some 71) rfl rfl Try.func14 (by kernel_rfl) rfl #[.agg #[.int .i64 t343, .slice Ao40 t366.length co40, .slice Ao41 t367.length co41], .int .i64 1] rfl (by (try simp only [List.map_toArray, List.map_cons, List.map_nil]); first | done | (rw [show t366.length = t344.length from (Kd.R_reads' p4'.out).1.symm, show t367.length = t347.length from (Kd.R_reads' p5'.out).1.symm] <;> rfl) | rfl | (simp only [List.length_drop, List.length_take]; rfl)) ?_; (with_reducible refine (laws_heldBuddy.calls kj64 t343 _ _ t366 _ _ t367 1 t368 _ ?side1 ?side2 ?side3 ?side4 A97.out).mono ?_); (case side1 => repeat (first | exact (Kd.R_reads' p4'.out).2.2 | (with_reducible refine cA ?_ _) | (with_reducible refine cN ?_ _) | (with_reducible refine cD ?_))); (case side2 => rw [show t366.length = t344.length from (Kd.R_reads' p4'.out).1.symm]; exact (Kd.R_reads' p4'.out).2.1); (case side3 => repeat (first | exact (Kd.R_reads' p5'.out).2.2 | (with_reducible refine cA ?_ _) | (with_reducible refine cN ?_ _) | (with_reducible refine cD ?_))); (case side4 => rw [show t367.length = t347.length from (Kd.R_reads' p5'.out).1.symm]; exact (Kd.R_reads' p5'.out).2.1); rintro e w116 ⟨rfl, hb⟩; refine ⟨_, rfl, ?_⟩; replace p0' := xK p0'.out hb; replace p1' := xK p1'.out hb; replace p2' := xK p2'.out hb; replace p3' := xK p3'.out hb; replace p4' := xK p4'.out hb; replace p5' := xK p5'.out hb; replace BK317 := yK BK317.out hb; replace BK334 := yK BK334.out hb; replace BK342 := yK BK342.out hb; replace BK351 := yK BK351.out hb; replace HB := aM (zT (zH HB.out) hb); (try clear hb); have hnb117 := NB317_334.out; have hnc117 := NB334_317.out; have hnb118 := NB317_342.out; have hnc118 := NB342_317.out; have hcz119_0 : w116.cell? ⟨gb317, 0, none⟩ = some (.int .i64 a0_0) := yc BK317.out 0; have hcz119_1 : w116.cell? ⟨gb317, 1, none⟩ = some (.slice A0_1 l0_1.length c0_1) := yc BK317.out 1; have hcz119_2 : w116.cell? ⟨gb317, 2, none⟩ = some (.slice A0_2 l0_2.length c0_2) := yc BK317.out 2; have hfz119_0 := yZ BK317.out 0; have hfz119_1 := yZ BK317.out 1; have hfz119_2 := yZ BK317.out 2) | ((with_reducible refine gate_callee (f := 10) rfl ?_); refine goesL_ (some 79) rfl rfl Try.func10 (by kernel_rfl) rfl #[.agg #[.int .i64 a0_0, .slice A0_1 l0_1.length c0_1, .slice A0_2 l0_2.length c0_2]] rfl (by (try simp only [List.map_toArray, List.map_cons, List.map_nil]); first | done | rfl | (simp only [List.length_drop, List.length_take]; rfl)) ?_; (with_reducible refine (laws_toBuddy.calls kj64 a0_0 _ _ l0_1 _ _ l0_2 t369 t370 t373 _ ?side1 ?side2 ?side3 ?side4 A107.out).mono ?_); (case side1 => exact cK HR0_1.out HB.out); (case side2 => exact HC0_1.out); (case side3 => exact cK HR0_2.out HB.out); (case side4 => exact HC0_2.out); rintro e w120 ⟨v371, v374, rfl, ho0, ho1, hb⟩; refine ⟨_, rfl, ?_⟩; have HO372 := aM (xL (Kd.R_new' (Kd.R_new' (Kd.R_new' (Kd.R_new' (Kd.R_new' (Kd.R_new' ho0 (Kd.R_lt (xH p0'.out))) (Kd.R_lt (xH p1'.out))) (Kd.R_lt (xH p2'.out))) (Kd.R_lt (xH p3'.out))) (Kd.R_lt (xH p4'.out))) (Kd.R_lt (xH p5'.out))) (zZ (zH HB.out))); have HO375 := aM (xL (Kd.R_new' (Kd.R_new' (Kd.R_new' (Kd.R_new' (Kd.R_new' (Kd.R_new' ho1 (Kd.R_lt (xH p0'.out))) (Kd.R_lt (xH p1'.out))) (Kd.R_lt (xH p2'.out))) (Kd.R_lt (xH p3'.out))) (Kd.R_lt (xH p4'.out))) (Kd.R_lt (xH p5'.out))) (zZ (zH HB.out))); replace p0' := aM (xM (Kd.R_told (Kd.R_told (Kd.R_old (xH p0'.out) hb) (Kd.R_base ho0)) (Kd.R_base ho1)) (fun _ h_ => h_.1)); replace p1' := aM (xM (Kd.R_told (Kd.R_told (Kd.R_old (xH p1'.out) hb) (Kd.R_base ho0)) (Kd.R_base ho1)) (fun _ h_ => h_.1)); replace p2' := aM (xM (Kd.R_told (Kd.R_told (Kd.R_old (xH p2'.out) hb) (Kd.R_base ho0)) (Kd.R_base ho1)) (fun _ h_ => h_.1)); replace p3' := aM (xM (Kd.R_told (Kd.R_told (Kd.R_old (xH p3'.out) hb) (Kd.R_base ho0)) (Kd.R_base ho1)) (fun _ h_ => h_.1)); replace p4' := aM (xM (Kd.R_told (Kd.R_told (Kd.R_old (xH p4'.out) hb) (Kd.R_base ho0)) (Kd.R_base ho1)) (fun _ h_ => h_.1)); replace p5' := aM (xM (Kd.R_told (Kd.R_told (Kd.R_old (xH p5'.out) hb) (Kd.R_base ho0)) (Kd.R_base ho1)) (fun _ h_ => h_.1)); replace BK317 := yK BK317.out hb; replace BK334 := yK BK334.out hb; replace BK342 := yK BK342.out hb; replace BK351 := yK BK351.out hb; replace HB := aM (zT (zH HB.out) hb); (try clear hb); (try clear ho0); (try clear ho1); obtain ⟨Ao121, co121, eo121⟩ := Kd.R_slice HO372.out; subst eo121; obtain ⟨Ao122, co122, eo122⟩ := Kd.R_slice HO375.out; subst eo122) | ((with_reducible refine gate_callee (f := 11) rfl ?_); refine goesL_ (some 81) rfl rfl Try.func11 (by kernel_rfl) rfl #[.agg #[.int .i64 t369, .slice Ao121 t370.length co121, .slice Ao122 t373.length co122], .int .i64 a1] rfl (by (try simp only [List.map_toArray, List.map_cons, List.map_nil]); first | done | rfl | (simp only [List.length_drop, List.length_take]; rfl)) ?_; (with_reducible refine (impl_GiveBlock.calls kj64 t369 _ _ t370 _ _ t373 a1 t376 t377 t380 t383 _ ?side1 ?side2 ?side3 ?side4 A108.out).mono ?_); (case side1 => repeat (first | exact (Kd.R_reads' HO372.out).2.2 | (with_reducible refine cA ?_ _) | (with_reducible refine cN ?_ _) | (with_reducible refine cD ?_))); (case side2 => exact (Kd.R_reads' HO372.out).2.1); (case side3 => repeat (first | exact (Kd.R_reads' HO375.out).2.2 | (with_reducible refine cA ?_ _) | (with_reducible refine cN ?_ _) | (with_reducible refine cD ?_))); (case side4 => exact (Kd.R_reads' HO375.out).2.1); rintro e w123 ⟨v378, v381, rfl, ho0, ho1, hb⟩; refine ⟨_, rfl, ?_⟩; have HO379 := aM (xL (Kd.R_new' (Kd.R_new' (Kd.R_new' (Kd.R_new' (Kd.R_new' (Kd.R_new' (Kd.R_new' (Kd.R_new' ho0 (Kd.R_lt (xH p0'.out))) (Kd.R_lt (xH p1'.out))) (Kd.R_lt (xH p2'.out))) (Kd.R_lt (xH p3'.out))) (Kd.R_lt (xH p4'.out))) (Kd.R_lt (xH p5'.out))) (Kd.R_lt (xH HO372.out))) (Kd.R_lt (xH HO375.out))) (zZ (zH HB.out))); have HO382 := aM (xL (Kd.R_new' (Kd.R_new' (Kd.R_new' (Kd.R_new' (Kd.R_new' (Kd.R_new' (Kd.R_new' (Kd.R_new' ho1 (Kd.R_lt (xH p0'.out))) (Kd.R_lt (xH p1'.out))) (Kd.R_lt (xH p2'.out))) (Kd.R_lt (xH p3'.out))) (Kd.R_lt (xH p4'.out))) (Kd.R_lt (xH p5'.out))) (Kd.R_lt (xH HO372.out))) (Kd.R_lt (xH HO375.out))) (zZ (zH HB.out))); replace p0' := aM (xM (Kd.R_told (Kd.R_told (Kd.R_old (xH p0'.out) hb) (Kd.R_base ho0)) (Kd.R_base ho1)) (fun _ h_ => h_.1)); replace p1' := aM (xM (Kd.R_told (Kd.R_told (Kd.R_old (xH p1'.out) hb) (Kd.R_base ho0)) (Kd.R_base ho1)) (fun _ h_ => h_.1)); replace p2' := aM (xM (Kd.R_told (Kd.R_told (Kd.R_old (xH p2'.out) hb) (Kd.R_base ho0)) (Kd.R_base ho1)) (fun _ h_ => h_.1)); replace p3' := aM (xM (Kd.R_told (Kd.R_told (Kd.R_old (xH p3'.out) hb) (Kd.R_base ho0)) (Kd.R_base ho1)) (fun _ h_ => h_.1)); replace p4' := aM (xM (Kd.R_told (Kd.R_told (Kd.R_old (xH p4'.out) hb) (Kd.R_base ho0)) (Kd.R_base ho1)) (fun _ h_ => h_.1)); replace p5' := aM (xM (Kd.R_told (Kd.R_told (Kd.R_old (xH p5'.out) hb) (Kd.R_base ho0)) (Kd.R_base ho1)) (fun _ h_ => h_.1)); replace HO372 := aM (xM (Kd.R_told (Kd.R_told (Kd.R_old (xH HO372.out) hb) (Kd.R_base ho0)) (Kd.R_base ho1)) (fun _ h_ => h_.1)); replace HO375 := aM (xM (Kd.R_told (Kd.R_told (Kd.R_old (xH HO375.out) hb) (Kd.R_base ho0)) (Kd.R_base ho1)) (fun _ h_ => h_.1)); replace BK317 := yK BK317.out hb; replace BK334 := yK BK334.out hb; replace BK342 := yK BK342.out hb; replace BK351 := yK BK351.out hb; replace HB := aM (zT (zH HB.out) hb); (try clear hb); (try clear ho0); (try clear ho1)) | ((with_reducible refine gate_dst (N := 14) rfl ?_); refine box_event ?hg (N := 14) ?hd (cs := #[.int .i64 0, .slice none 0 0, .slice none 0 0]) (t := 28) ?hr ?_; (case hd => rfl); (case hg => rfl); (case hr => first | (go_simp; done) | (go_simp; rfl)); intro gb384 hg w124 hbox hb; replace p0' := xK p0'.out hb; replace p1' := xK p1'.out hb; replace p2' := xK p2'.out hb; replace p3' := xK p3'.out hb; replace p4' := xK p4'.out hb; replace p5' := xK p5'.out hb; replace HO372 := xK HO372.out hb; replace HO375 := xK HO375.out hb; replace HO379 := xK HO379.out hb; replace HO382 := xK HO382.out hb; have BK384 := aM (hbox); have GW384 := aM ((by rw [hg]; exact (zZ (zH HB.out)) : w.heap.size ≤ gb384)); have GE384 := aM ((by rw [hg]; exact (zZ (zH HB.out)) : w.heap.size ≤ gb384)); replace HB := aM (zT (zH HB.out) hb); have NB317_384 := nL BK317.out hg; have NB384_317 := nR BK317.out hg; replace BK317 := yK BK317.out hb; have NB334_384 := nL BK334.out hg; have NB384_334 := nR BK334.out hg; replace BK334 := yK BK334.out hb; have NB342_384 := nL BK342.out hg; have NB384_342 := nR BK342.out hg; replace BK342 := yK BK342.out hb; have NB351_384 := nL BK351.out hg; have NB384_351 := nR BK351.out hg; replace BK351 := yK BK351.out hb; clear hb hbox hg; have hnb125 := NB384_317.out; have hnc125 := NB317_384.out; have hnb126 := NB384_334.out; have hnc126 := NB334_384.out; have hnb127 := NB384_342.out; have hnc127 := NB342_384.out; have hnb128 := NB384_351.out; have hnc128 := NB351_384.out; have hcz129_0 : w124.cell? ⟨gb384, 0, none⟩ = some (.int .i64 0) := yc BK384.out 0; have hcz129_1 : w124.cell? ⟨gb384, 1, none⟩ = some (.slice none 0 0) := yc BK384.out 1; have hcz129_2 : w124.cell? ⟨gb384, 2, none⟩ = some (.slice none 0 0) := yc BK384.out 2; have hfz129_0 := yZ BK384.out 0; have hfz129_1 := yZ BK384.out 1; have hfz129_2 := yZ BK384.out 2; obtain ⟨Ao130, co130, eo130⟩ := Kd.R_slice HO379.out; subst eo130; obtain ⟨Ao131, co131, eo131⟩ := Kd.R_slice HO382.out; subst eo131))
           (try simp only [Act.put, qA, qB, qC])
           go_cut [92] (fun v92 wc => ∃ (kq : Nat) (x92_108 : Bool), v92 = .bool x92_108 ∧ Aside0 (laws_FnExactGiveBlock.j2 kq t365 x92_108 t343 t366 t367 = some r) ∧ Aside0 (kq ≤ kj64) ∧ Aside0 (Kd.R k45 45 wc w.heap.size (fun k_ => some k_ ≠ oB Ao25 t330.length co25 ∧ some k_ ≠ oB Ao32 t362.length co32 ∧ some k_ ≠ oB Ao33 t363.length co33 ∧ some k_ ≠ oB Ao40 t344.length co40 ∧ some k_ ≠ oB Ao41 t347.length co41 ∧ some k_ ≠ oB Ao130 t377.length co130 ∧ some k_ ≠ oB Ao131 t380.length co131) (.slice Ao24 t327.length co24) t327) ∧ Aside0 (Kd.R k45 45 wc w.heap.size (fun k_ => some k_ ≠ oB Ao24 t327.length co24 ∧ some k_ ≠ oB Ao32 t362.length co32 ∧ some k_ ≠ oB Ao33 t363.length co33 ∧ some k_ ≠ oB Ao40 t344.length co40 ∧ some k_ ≠ oB Ao41 t347.length co41 ∧ some k_ ≠ oB Ao130 t377.length co130 ∧ some k_ ≠ oB Ao131 t380.length co131) (.slice Ao25 t330.length co25) t330) ∧ Aside0 (Kd.R k45 45 wc w.heap.size (fun k_ => some k_ ≠ oB Ao24 t327.length co24 ∧ some k_ ≠ oB Ao25 t330.length co25 ∧ some k_ ≠ oB Ao33 t363.length co33 ∧ some k_ ≠ oB Ao40 t344.length co40 ∧ some k_ ≠ oB Ao41 t347.length co41 ∧ some k_ ≠ oB Ao130 t377.length co130 ∧ some k_ ≠ oB Ao131 t380.length co131) (.slice Ao32 t362.length co32) t362) ∧ Aside0 (Kd.R k45 45 wc w.heap.size (fun k_ => some k_ ≠ oB Ao24 t327.length co24 ∧ some k_ ≠ oB Ao25 t330.length co25 ∧ some k_ ≠ oB Ao32 t362.length co32 ∧ some k_ ≠ oB Ao40 t344.length co40 ∧ some k_ ≠ oB Ao41 t347.length co41 ∧ some k_ ≠ oB Ao130 t377.length co130 ∧ some k_ ≠ oB Ao131 t380.length co131) (.slice Ao33 t363.length co33) t363) ∧ Aside0 (Kd.R k45 45 wc w.heap.size (fun k_ => some k_ ≠ oB Ao24 t327.length co24 ∧ some k_ ≠ oB Ao25 t330.length co25 ∧ some k_ ≠ oB Ao32 t362.length co32 ∧ some k_ ≠ oB Ao33 t363.length co33 ∧ some k_ ≠ oB Ao41 t347.length co41 ∧ some k_ ≠ oB Ao130 t377.length co130 ∧ some k_ ≠ oB Ao131 t380.length co131) (.slice Ao40 t344.length co40) t366) ∧ Aside0 (Kd.R k45 45 wc w.heap.size (fun k_ => some k_ ≠ oB Ao24 t327.length co24 ∧ some k_ ≠ oB Ao25 t330.length co25 ∧ some k_ ≠ oB Ao32 t362.length co32 ∧ some k_ ≠ oB Ao33 t363.length co33 ∧ some k_ ≠ oB Ao40 t344.length co40 ∧ some k_ ≠ oB Ao130 t377.length co130 ∧ some k_ ≠ oB Ao131 t380.length co131) (.slice Ao41 t347.length co41) t367) ∧ Aside0 (Kd.R k45 45 wc w.heap.size (fun k_ => some k_ ≠ oB Ao24 t327.length co24 ∧ some k_ ≠ oB Ao25 t330.length co25 ∧ some k_ ≠ oB Ao32 t362.length co32 ∧ some k_ ≠ oB Ao33 t363.length co33 ∧ some k_ ≠ oB Ao40 t344.length co40 ∧ some k_ ≠ oB Ao41 t347.length co41 ∧ some k_ ≠ oB Ao131 t380.length co131) (.slice Ao130 t377.length co130) t377) ∧ Aside0 (Kd.R k45 45 wc w.heap.size (fun k_ => some k_ ≠ oB Ao24 t327.length co24 ∧ some k_ ≠ oB Ao25 t330.length co25 ∧ some k_ ≠ oB Ao32 t362.length co32 ∧ some k_ ≠ oB Ao33 t363.length co33 ∧ some k_ ≠ oB Ao40 t344.length co40 ∧ some k_ ≠ oB Ao41 t347.length co41 ∧ some k_ ≠ oB Ao130 t377.length co130) (.slice Ao131 t380.length co131) t380) ∧ Aside0 (wc.heap[gb317]? = some (.cells #[.int .i64 a0_0, (.slice A0_1 l0_1.length c0_1), (.slice A0_2 l0_2.length c0_2)] 24 (0, 0))) ∧ Aside0 (wc.heap[gb334]? = some (.cells #[.int .i64 t326, (.slice Ao24 t327.length co24), (.slice Ao25 t330.length co25)] 28 (0, 0))) ∧ Aside0 (wc.heap[gb342]? = some (.cells #[.int .i64 t335, (.slice Ao32 t362.length co32), (.slice Ao33 t363.length co33)] 28 (0, 0))) ∧ Aside0 (wc.heap[gb351]? = some (.cells #[.int .i64 t343, (.slice Ao40 t344.length co40), (.slice Ao41 t347.length co41)] 28 (0, 0))) ∧ Aside0 (wc.heap[gb384]? = some (.cells #[.int .i64 t376, (.slice Ao130 t377.length co130), (.slice Ao131 t380.length co131)] 28 (0, 0))) ∧ Aside0 (Below w.heap.size w wc))
           case first =>
            have H := HC109.out
            clear HC109
            replace H := Option.bind_eq_some_iff.mp H
            obtain ⟨t385, A1320, H⟩ := H
            replace H : (if t385 = true then (laws_FnExactGiveBlock.j2 kj64 t365 (t383 != t333) t343 t366 t367) else (laws_FnExactGiveBlock.j2 kj64 t365 true t343 t366 t367)) = some r := H
            have A132 := aM A1320
            clear A1320
            by_cases c133 : t385 = true
            ·subst c133
             have H1 : (laws_FnExactGiveBlock.j2 kj64 t365 (t383 != t333) t343 t366 t367) = some r := by rw [if_pos rfl] at H; exact H
             clear H
             have H := H1
             clear H1
             have H' := aM H
             clear H
             have hnb134 := NB384_317.out
             have hnc134 := NB317_384.out
             have hnb135 := NB384_334.out
             have hnc135 := NB334_384.out
             have hnb136 := NB384_342.out
             have hnc136 := NB342_384.out
             have hnb137 := NB384_351.out
             have hnc137 := NB351_384.out
             have hcz138_0 : w124.cell? ⟨gb384, 0, none⟩ = some (.int .i64 0) := yc BK384.out 0
             have hcz138_1 : w124.cell? ⟨gb384, 1, none⟩ = some (.slice none 0 0) := yc BK384.out 1
             have hcz138_2 : w124.cell? ⟨gb384, 2, none⟩ = some (.slice none 0 0) := yc BK384.out 2
             have hfz138_0 := yZ BK384.out 0
             have hfz138_1 := yZ BK384.out 1
             have hfz138_2 := yZ BK384.out 2
             have hnb139 := NB334_317.out
             have hnc139 := NB317_334.out
             have hnb140 := NB334_342.out
             have hnc140 := NB342_334.out
             have hnb141 := NB334_351.out
             have hnc141 := NB351_334.out
             have hcz142_0 : w124.cell? ⟨gb334, 0, none⟩ = some (.int .i64 t326) := yc BK334.out 0
             have hcz142_1 : w124.cell? ⟨gb334, 1, none⟩ = some (.slice Ao24 t327.length co24) := yc BK334.out 1
             have hcz142_2 : w124.cell? ⟨gb334, 2, none⟩ = some (.slice Ao25 t330.length co25) := yc BK334.out 2
             have hfz142_0 := yZ BK334.out 0
             have hfz142_1 := yZ BK334.out 1
             have hfz142_2 := yZ BK334.out 2
             go_wp2_with (first | ((with_reducible refine gate_callee (f := 12) rfl ?_); refine goesL_ (some 86) rfl rfl Try.func12 (by kernel_rfl) rfl #[.agg #[.int .i64 t376, .slice Ao130 t377.length co130, .slice Ao131 t380.length co131], .agg #[.int .i64 t326, .slice Ao24 t327.length co24, .slice Ao25 t330.length co25]] rfl (by (try simp only [List.map_toArray, List.map_cons, List.map_nil]); first | done | rfl | (simp only [List.length_drop, List.length_take]; rfl)) ?_; (with_reducible refine (laws_eqBuddy.calls kj64 t376 _ _ t377 _ _ t380 t326 _ _ t327 _ _ t330 true _ ?side1 ?side2 ?side3 ?side4 ?side5 ?side6 ?side7 ?side8 A132.out).mono ?_); (case side1 => exact rC (n := t377.length) (c := co130) ((x3 HO379.out BK384.out (by decide) (.int .i64 t376) (.slice Ao130 t377.length co130) (.slice Ao131 t380.length co131)))); (case side2 => exact (Kd.R_reads' HO379.out).2.1); (case side3 => exact rC (n := t380.length) (c := co131) ((x3 HO382.out BK384.out (by decide) (.int .i64 t376) (.slice Ao130 t377.length co130) (.slice Ao131 t380.length co131)))); (case side4 => exact (Kd.R_reads' HO382.out).2.1); (case side5 => exact rC (n := t327.length) (c := co24) ((x3 p0'.out BK384.out (by decide) (.int .i64 t376) (.slice Ao130 t377.length co130) (.slice Ao131 t380.length co131)))); (case side6 => exact (Kd.R_reads' p0'.out).2.1); (case side7 => exact rC (n := t330.length) (c := co25) ((x3 p1'.out BK384.out (by decide) (.int .i64 t376) (.slice Ao130 t377.length co130) (.slice Ao131 t380.length co131)))); (case side8 => exact (Kd.R_reads' p1'.out).2.1); rintro e w143 ⟨rfl, hb⟩; refine ⟨_, rfl, ?_⟩; replace p0' := aM (xB (xH ((x3 p0'.out BK384.out (by decide) (.int .i64 t376) (.slice Ao130 t377.length co130) (.slice Ao131 t380.length co131)))) hb); replace p1' := aM (xB (xH ((x3 p1'.out BK384.out (by decide) (.int .i64 t376) (.slice Ao130 t377.length co130) (.slice Ao131 t380.length co131)))) hb); replace p2' := aM (xB (xH ((x3 p2'.out BK384.out (by decide) (.int .i64 t376) (.slice Ao130 t377.length co130) (.slice Ao131 t380.length co131)))) hb); replace p3' := aM (xB (xH ((x3 p3'.out BK384.out (by decide) (.int .i64 t376) (.slice Ao130 t377.length co130) (.slice Ao131 t380.length co131)))) hb); replace p4' := aM (xB (xH ((x3 p4'.out BK384.out (by decide) (.int .i64 t376) (.slice Ao130 t377.length co130) (.slice Ao131 t380.length co131)))) hb); replace p5' := aM (xB (xH ((x3 p5'.out BK384.out (by decide) (.int .i64 t376) (.slice Ao130 t377.length co130) (.slice Ao131 t380.length co131)))) hb); replace HO372 := aM (xB (xH ((x3 HO372.out BK384.out (by decide) (.int .i64 t376) (.slice Ao130 t377.length co130) (.slice Ao131 t380.length co131)))) hb); replace HO375 := aM (xB (xH ((x3 HO375.out BK384.out (by decide) (.int .i64 t376) (.slice Ao130 t377.length co130) (.slice Ao131 t380.length co131)))) hb); replace HO379 := aM (xB (xH ((x3 HO379.out BK384.out (by decide) (.int .i64 t376) (.slice Ao130 t377.length co130) (.slice Ao131 t380.length co131)))) hb); replace HO382 := aM (xB (xH ((x3 HO382.out BK384.out (by decide) (.int .i64 t376) (.slice Ao130 t377.length co130) (.slice Ao131 t380.length co131)))) hb); replace BK317 := aM (yB (g := gb317) (o := .cells #[.int .i64 a0_0, .slice A0_1 l0_1.length c0_1, .slice A0_2 l0_2.length c0_2] 24 (0, 0)) (by (with_reducible repeat (first | refine yN ?_ _ | refine yD ?_ | refine yA ?_ _)); refine yF ?_ NB317_384.out _; (with_reducible repeat (first | refine yN ?_ _ | refine yD ?_ | refine yA ?_ _)); refine yF ?_ NB317_384.out _; (with_reducible repeat (first | refine yN ?_ _ | refine yD ?_ | refine yA ?_ _)); refine yF ?_ NB317_384.out _; (with_reducible repeat (first | refine yN ?_ _ | refine yD ?_ | refine yA ?_ _)); exact BK317.out) hb); replace BK334 := aM (yB (g := gb334) (o := .cells #[.int .i64 t326, .slice Ao24 t327.length co24, .slice Ao25 t330.length co25] 28 (0, 0)) (by (with_reducible repeat (first | refine yN ?_ _ | refine yD ?_ | refine yA ?_ _)); refine yF ?_ NB334_384.out _; (with_reducible repeat (first | refine yN ?_ _ | refine yD ?_ | refine yA ?_ _)); refine yF ?_ NB334_384.out _; (with_reducible repeat (first | refine yN ?_ _ | refine yD ?_ | refine yA ?_ _)); refine yF ?_ NB334_384.out _; (with_reducible repeat (first | refine yN ?_ _ | refine yD ?_ | refine yA ?_ _)); exact BK334.out) hb); replace BK342 := aM (yB (g := gb342) (o := .cells #[.int .i64 t335, .slice Ao32 t362.length co32, .slice Ao33 t363.length co33] 28 (0, 0)) (by (with_reducible repeat (first | refine yN ?_ _ | refine yD ?_ | refine yA ?_ _)); refine yF ?_ NB342_384.out _; (with_reducible repeat (first | refine yN ?_ _ | refine yD ?_ | refine yA ?_ _)); refine yF ?_ NB342_384.out _; (with_reducible repeat (first | refine yN ?_ _ | refine yD ?_ | refine yA ?_ _)); refine yF ?_ NB342_384.out _; (with_reducible repeat (first | refine yN ?_ _ | refine yD ?_ | refine yA ?_ _)); exact BK342.out) hb); replace BK351 := aM (yB (g := gb351) (o := .cells #[.int .i64 t343, .slice Ao40 t344.length co40, .slice Ao41 t347.length co41] 28 (0, 0)) (by (with_reducible repeat (first | refine yN ?_ _ | refine yD ?_ | refine yA ?_ _)); refine yF ?_ NB351_384.out _; (with_reducible repeat (first | refine yN ?_ _ | refine yD ?_ | refine yA ?_ _)); refine yF ?_ NB351_384.out _; (with_reducible repeat (first | refine yN ?_ _ | refine yD ?_ | refine yA ?_ _)); refine yF ?_ NB351_384.out _; (with_reducible repeat (first | refine yN ?_ _ | refine yD ?_ | refine yA ?_ _)); exact BK351.out) hb); replace BK384 := aM (yB (g := gb384) (o := .cells #[.int .i64 t376, .slice Ao130 t377.length co130, .slice Ao131 t380.length co131] 28 (0, 0)) (by (with_reducible repeat (first | refine yN ?_ _ | refine yD ?_ | refine yA ?_ _)); refine yP (cs := #[.int .i64 t376, .slice Ao130 t377.length co130, .slice none 0 0]) ?_ 2 _ rfl; (with_reducible repeat (first | refine yN ?_ _ | refine yD ?_ | refine yA ?_ _)); refine yP (cs := #[.int .i64 t376, .slice none 0 0, .slice none 0 0]) ?_ 1 _ rfl; (with_reducible repeat (first | refine yN ?_ _ | refine yD ?_ | refine yA ?_ _)); refine yP (cs := #[.int .i64 0, .slice none 0 0, .slice none 0 0]) ?_ 0 _ rfl; (with_reducible repeat (first | refine yN ?_ _ | refine yD ?_ | refine yA ?_ _)); exact BK384.out) hb); replace HB := aM (zT (zH HB.out) hb); (try clear hb)))
             go_meet
             case rel => exact ⟨_, ((t383 != t333)), (by first | rfl | (simp; done) | (simp [*]; done)), H', ⟨by have := HJ11.out; have := HJ64.out; first | omega | exact Nat.le_refl _⟩, ⟨by (try simp only [hl343001_64]); (try simp only [hl343002_64]); (with_reducible repeat (first | apply xA | apply xN | apply xD)); exact xM p0'.out (fun _ hk => ⟨hk.1.1.1.1.1, ⟨hk.1.1.1.1.2.1, ⟨hk.1.1.1.1.2.2.1, ⟨hk.1.1.1.1.2.2.2.1, ⟨hk.1.1.1.1.2.2.2.2, ⟨hk.1.2, hk.2⟩⟩⟩⟩⟩⟩)⟩, ⟨by (try simp only [hl343001_64]); (try simp only [hl343002_64]); (with_reducible repeat (first | apply xA | apply xN | apply xD)); exact xM p1'.out (fun _ hk => ⟨hk.1.1.1.1.1, ⟨hk.1.1.1.1.2.1, ⟨hk.1.1.1.1.2.2.1, ⟨hk.1.1.1.1.2.2.2.1, ⟨hk.1.1.1.1.2.2.2.2, ⟨hk.1.2, hk.2⟩⟩⟩⟩⟩⟩)⟩, ⟨by (try simp only [hl343001_64]); (try simp only [hl343002_64]); (with_reducible repeat (first | apply xA | apply xN | apply xD)); exact xM p2'.out (fun _ hk => ⟨hk.1.1.1.1.1, ⟨hk.1.1.1.1.2.1, ⟨hk.1.1.1.1.2.2.1, ⟨hk.1.1.1.1.2.2.2.1, ⟨hk.1.1.1.1.2.2.2.2, ⟨hk.1.2, hk.2⟩⟩⟩⟩⟩⟩)⟩, ⟨by (try simp only [hl343001_64]); (try simp only [hl343002_64]); (with_reducible repeat (first | apply xA | apply xN | apply xD)); exact xM p3'.out (fun _ hk => ⟨hk.1.1.1.1.1, ⟨hk.1.1.1.1.2.1, ⟨hk.1.1.1.1.2.2.1, ⟨hk.1.1.1.1.2.2.2.1, ⟨hk.1.1.1.1.2.2.2.2, ⟨hk.1.2, hk.2⟩⟩⟩⟩⟩⟩)⟩, ⟨by (try simp only [hl343001_64]); (try simp only [hl343002_64]); (with_reducible repeat (first | apply xA | apply xN | apply xD)); exact xM p4'.out (fun _ hk => ⟨hk.1.1.1.1.1, ⟨hk.1.1.1.1.2.1, ⟨hk.1.1.1.1.2.2.1, ⟨hk.1.1.1.1.2.2.2.1, ⟨hk.1.1.1.1.2.2.2.2, ⟨hk.1.2, hk.2⟩⟩⟩⟩⟩⟩)⟩, ⟨by (try simp only [hl343001_64]); (try simp only [hl343002_64]); (with_reducible repeat (first | apply xA | apply xN | apply xD)); exact xM p5'.out (fun _ hk => ⟨hk.1.1.1.1.1, ⟨hk.1.1.1.1.2.1, ⟨hk.1.1.1.1.2.2.1, ⟨hk.1.1.1.1.2.2.2.1, ⟨hk.1.1.1.1.2.2.2.2, ⟨hk.1.2, hk.2⟩⟩⟩⟩⟩⟩)⟩, ⟨by (try simp only [hl343001_64]); (try simp only [hl343002_64]); (with_reducible repeat (first | apply xA | apply xN | apply xD)); exact xM HO379.out (fun _ hk => ⟨hk.1.1.1.1.1.1.1.2, ⟨hk.1.1.1.1.1.1.2, ⟨hk.1.1.1.1.1.2, ⟨hk.1.1.1.1.2, ⟨hk.1.1.1.2, ⟨hk.1.1.2, hk.1.1.1.1.1.1.1.1⟩⟩⟩⟩⟩⟩)⟩, ⟨by (try simp only [hl343001_64]); (try simp only [hl343002_64]); (with_reducible repeat (first | apply xA | apply xN | apply xD)); exact xM HO382.out (fun _ hk => ⟨hk.1.1.1.1.1.1.1.2, ⟨hk.1.1.1.1.1.1.2, ⟨hk.1.1.1.1.1.2, ⟨hk.1.1.1.1.2, ⟨hk.1.1.1.2, ⟨hk.1.1.2, hk.1.1.1.1.1.1.1.1⟩⟩⟩⟩⟩⟩)⟩, ⟨by (try simp only [hl343001_64]); (try simp only [hl343002_64]); (with_reducible repeat (first | refine yN ?_ _ | refine yD ?_ | refine yA ?_ _)); exact BK317.out⟩, ⟨by (try simp only [hl343001_64]); (try simp only [hl343002_64]); (with_reducible repeat (first | refine yN ?_ _ | refine yD ?_ | refine yA ?_ _)); exact BK334.out⟩, ⟨by (try simp only [hl343001_64]); (try simp only [hl343002_64]); (with_reducible repeat (first | refine yN ?_ _ | refine yD ?_ | refine yA ?_ _)); exact BK342.out⟩, ⟨by (try simp only [hl343001_64]); (try simp only [hl343002_64]); (with_reducible repeat (first | refine yN ?_ _ | refine yD ?_ | refine yA ?_ _)); exact BK351.out⟩, ⟨by (try simp only [hl343001_64]); (try simp only [hl343002_64]); (with_reducible repeat (first | refine yN ?_ _ | refine yD ?_ | refine yA ?_ _)); exact BK384.out⟩, ⟨zH HB.out⟩⟩
            ·replace c133 := Bool.eq_false_iff.mpr c133
             subst c133
             have H1 : (laws_FnExactGiveBlock.j2 kj64 t365 true t343 t366 t367) = some r := by rw [if_neg (show ¬ (false = true) by decide)] at H; exact H
             clear H
             have H := H1
             clear H1
             have H' := aM H
             clear H
             have hnb144 := NB384_317.out
             have hnc144 := NB317_384.out
             have hnb145 := NB384_334.out
             have hnc145 := NB334_384.out
             have hnb146 := NB384_342.out
             have hnc146 := NB342_384.out
             have hnb147 := NB384_351.out
             have hnc147 := NB351_384.out
             have hcz148_0 : w124.cell? ⟨gb384, 0, none⟩ = some (.int .i64 0) := yc BK384.out 0
             have hcz148_1 : w124.cell? ⟨gb384, 1, none⟩ = some (.slice none 0 0) := yc BK384.out 1
             have hcz148_2 : w124.cell? ⟨gb384, 2, none⟩ = some (.slice none 0 0) := yc BK384.out 2
             have hfz148_0 := yZ BK384.out 0
             have hfz148_1 := yZ BK384.out 1
             have hfz148_2 := yZ BK384.out 2
             have hnb149 := NB334_317.out
             have hnc149 := NB317_334.out
             have hnb150 := NB334_342.out
             have hnc150 := NB342_334.out
             have hnb151 := NB334_351.out
             have hnc151 := NB351_334.out
             have hcz152_0 : w124.cell? ⟨gb334, 0, none⟩ = some (.int .i64 t326) := yc BK334.out 0
             have hcz152_1 : w124.cell? ⟨gb334, 1, none⟩ = some (.slice Ao24 t327.length co24) := yc BK334.out 1
             have hcz152_2 : w124.cell? ⟨gb334, 2, none⟩ = some (.slice Ao25 t330.length co25) := yc BK334.out 2
             have hfz152_0 := yZ BK334.out 0
             have hfz152_1 := yZ BK334.out 1
             have hfz152_2 := yZ BK334.out 2
             go_wp2_with (first | ((with_reducible refine gate_callee (f := 12) rfl ?_); refine goesL_ (some 86) rfl rfl Try.func12 (by kernel_rfl) rfl #[.agg #[.int .i64 t376, .slice Ao130 t377.length co130, .slice Ao131 t380.length co131], .agg #[.int .i64 t326, .slice Ao24 t327.length co24, .slice Ao25 t330.length co25]] rfl (by (try simp only [List.map_toArray, List.map_cons, List.map_nil]); first | done | rfl | (simp only [List.length_drop, List.length_take]; rfl)) ?_; (with_reducible refine (laws_eqBuddy.calls kj64 t376 _ _ t377 _ _ t380 t326 _ _ t327 _ _ t330 false _ ?side1 ?side2 ?side3 ?side4 ?side5 ?side6 ?side7 ?side8 A132.out).mono ?_); (case side1 => exact rC (n := t377.length) (c := co130) ((x3 HO379.out BK384.out (by decide) (.int .i64 t376) (.slice Ao130 t377.length co130) (.slice Ao131 t380.length co131)))); (case side2 => exact (Kd.R_reads' HO379.out).2.1); (case side3 => exact rC (n := t380.length) (c := co131) ((x3 HO382.out BK384.out (by decide) (.int .i64 t376) (.slice Ao130 t377.length co130) (.slice Ao131 t380.length co131)))); (case side4 => exact (Kd.R_reads' HO382.out).2.1); (case side5 => exact rC (n := t327.length) (c := co24) ((x3 p0'.out BK384.out (by decide) (.int .i64 t376) (.slice Ao130 t377.length co130) (.slice Ao131 t380.length co131)))); (case side6 => exact (Kd.R_reads' p0'.out).2.1); (case side7 => exact rC (n := t330.length) (c := co25) ((x3 p1'.out BK384.out (by decide) (.int .i64 t376) (.slice Ao130 t377.length co130) (.slice Ao131 t380.length co131)))); (case side8 => exact (Kd.R_reads' p1'.out).2.1); rintro e w153 ⟨rfl, hb⟩; refine ⟨_, rfl, ?_⟩; replace p0' := aM (xB (xH ((x3 p0'.out BK384.out (by decide) (.int .i64 t376) (.slice Ao130 t377.length co130) (.slice Ao131 t380.length co131)))) hb); replace p1' := aM (xB (xH ((x3 p1'.out BK384.out (by decide) (.int .i64 t376) (.slice Ao130 t377.length co130) (.slice Ao131 t380.length co131)))) hb); replace p2' := aM (xB (xH ((x3 p2'.out BK384.out (by decide) (.int .i64 t376) (.slice Ao130 t377.length co130) (.slice Ao131 t380.length co131)))) hb); replace p3' := aM (xB (xH ((x3 p3'.out BK384.out (by decide) (.int .i64 t376) (.slice Ao130 t377.length co130) (.slice Ao131 t380.length co131)))) hb); replace p4' := aM (xB (xH ((x3 p4'.out BK384.out (by decide) (.int .i64 t376) (.slice Ao130 t377.length co130) (.slice Ao131 t380.length co131)))) hb); replace p5' := aM (xB (xH ((x3 p5'.out BK384.out (by decide) (.int .i64 t376) (.slice Ao130 t377.length co130) (.slice Ao131 t380.length co131)))) hb); replace HO372 := aM (xB (xH ((x3 HO372.out BK384.out (by decide) (.int .i64 t376) (.slice Ao130 t377.length co130) (.slice Ao131 t380.length co131)))) hb); replace HO375 := aM (xB (xH ((x3 HO375.out BK384.out (by decide) (.int .i64 t376) (.slice Ao130 t377.length co130) (.slice Ao131 t380.length co131)))) hb); replace HO379 := aM (xB (xH ((x3 HO379.out BK384.out (by decide) (.int .i64 t376) (.slice Ao130 t377.length co130) (.slice Ao131 t380.length co131)))) hb); replace HO382 := aM (xB (xH ((x3 HO382.out BK384.out (by decide) (.int .i64 t376) (.slice Ao130 t377.length co130) (.slice Ao131 t380.length co131)))) hb); replace BK317 := aM (yB (g := gb317) (o := .cells #[.int .i64 a0_0, .slice A0_1 l0_1.length c0_1, .slice A0_2 l0_2.length c0_2] 24 (0, 0)) (by (with_reducible repeat (first | refine yN ?_ _ | refine yD ?_ | refine yA ?_ _)); refine yF ?_ NB317_384.out _; (with_reducible repeat (first | refine yN ?_ _ | refine yD ?_ | refine yA ?_ _)); refine yF ?_ NB317_384.out _; (with_reducible repeat (first | refine yN ?_ _ | refine yD ?_ | refine yA ?_ _)); refine yF ?_ NB317_384.out _; (with_reducible repeat (first | refine yN ?_ _ | refine yD ?_ | refine yA ?_ _)); exact BK317.out) hb); replace BK334 := aM (yB (g := gb334) (o := .cells #[.int .i64 t326, .slice Ao24 t327.length co24, .slice Ao25 t330.length co25] 28 (0, 0)) (by (with_reducible repeat (first | refine yN ?_ _ | refine yD ?_ | refine yA ?_ _)); refine yF ?_ NB334_384.out _; (with_reducible repeat (first | refine yN ?_ _ | refine yD ?_ | refine yA ?_ _)); refine yF ?_ NB334_384.out _; (with_reducible repeat (first | refine yN ?_ _ | refine yD ?_ | refine yA ?_ _)); refine yF ?_ NB334_384.out _; (with_reducible repeat (first | refine yN ?_ _ | refine yD ?_ | refine yA ?_ _)); exact BK334.out) hb); replace BK342 := aM (yB (g := gb342) (o := .cells #[.int .i64 t335, .slice Ao32 t362.length co32, .slice Ao33 t363.length co33] 28 (0, 0)) (by (with_reducible repeat (first | refine yN ?_ _ | refine yD ?_ | refine yA ?_ _)); refine yF ?_ NB342_384.out _; (with_reducible repeat (first | refine yN ?_ _ | refine yD ?_ | refine yA ?_ _)); refine yF ?_ NB342_384.out _; (with_reducible repeat (first | refine yN ?_ _ | refine yD ?_ | refine yA ?_ _)); refine yF ?_ NB342_384.out _; (with_reducible repeat (first | refine yN ?_ _ | refine yD ?_ | refine yA ?_ _)); exact BK342.out) hb); replace BK351 := aM (yB (g := gb351) (o := .cells #[.int .i64 t343, .slice Ao40 t344.length co40, .slice Ao41 t347.length co41] 28 (0, 0)) (by (with_reducible repeat (first | refine yN ?_ _ | refine yD ?_ | refine yA ?_ _)); refine yF ?_ NB351_384.out _; (with_reducible repeat (first | refine yN ?_ _ | refine yD ?_ | refine yA ?_ _)); refine yF ?_ NB351_384.out _; (with_reducible repeat (first | refine yN ?_ _ | refine yD ?_ | refine yA ?_ _)); refine yF ?_ NB351_384.out _; (with_reducible repeat (first | refine yN ?_ _ | refine yD ?_ | refine yA ?_ _)); exact BK351.out) hb); replace BK384 := aM (yB (g := gb384) (o := .cells #[.int .i64 t376, .slice Ao130 t377.length co130, .slice Ao131 t380.length co131] 28 (0, 0)) (by (with_reducible repeat (first | refine yN ?_ _ | refine yD ?_ | refine yA ?_ _)); refine yP (cs := #[.int .i64 t376, .slice Ao130 t377.length co130, .slice none 0 0]) ?_ 2 _ rfl; (with_reducible repeat (first | refine yN ?_ _ | refine yD ?_ | refine yA ?_ _)); refine yP (cs := #[.int .i64 t376, .slice none 0 0, .slice none 0 0]) ?_ 1 _ rfl; (with_reducible repeat (first | refine yN ?_ _ | refine yD ?_ | refine yA ?_ _)); refine yP (cs := #[.int .i64 0, .slice none 0 0, .slice none 0 0]) ?_ 0 _ rfl; (with_reducible repeat (first | refine yN ?_ _ | refine yD ?_ | refine yA ?_ _)); exact BK384.out) hb); replace HB := aM (zT (zH HB.out) hb); (try clear hb)))
             go_meet
             case rel => exact ⟨_, (true), (by first | rfl | (simp; done) | (simp [*]; done)), H', ⟨by have := HJ11.out; have := HJ64.out; first | omega | exact Nat.le_refl _⟩, ⟨by (try simp only [hl343001_64]); (try simp only [hl343002_64]); (with_reducible repeat (first | apply xA | apply xN | apply xD)); exact xM p0'.out (fun _ hk => ⟨hk.1.1.1.1.1, ⟨hk.1.1.1.1.2.1, ⟨hk.1.1.1.1.2.2.1, ⟨hk.1.1.1.1.2.2.2.1, ⟨hk.1.1.1.1.2.2.2.2, ⟨hk.1.2, hk.2⟩⟩⟩⟩⟩⟩)⟩, ⟨by (try simp only [hl343001_64]); (try simp only [hl343002_64]); (with_reducible repeat (first | apply xA | apply xN | apply xD)); exact xM p1'.out (fun _ hk => ⟨hk.1.1.1.1.1, ⟨hk.1.1.1.1.2.1, ⟨hk.1.1.1.1.2.2.1, ⟨hk.1.1.1.1.2.2.2.1, ⟨hk.1.1.1.1.2.2.2.2, ⟨hk.1.2, hk.2⟩⟩⟩⟩⟩⟩)⟩, ⟨by (try simp only [hl343001_64]); (try simp only [hl343002_64]); (with_reducible repeat (first | apply xA | apply xN | apply xD)); exact xM p2'.out (fun _ hk => ⟨hk.1.1.1.1.1, ⟨hk.1.1.1.1.2.1, ⟨hk.1.1.1.1.2.2.1, ⟨hk.1.1.1.1.2.2.2.1, ⟨hk.1.1.1.1.2.2.2.2, ⟨hk.1.2, hk.2⟩⟩⟩⟩⟩⟩)⟩, ⟨by (try simp only [hl343001_64]); (try simp only [hl343002_64]); (with_reducible repeat (first | apply xA | apply xN | apply xD)); exact xM p3'.out (fun _ hk => ⟨hk.1.1.1.1.1, ⟨hk.1.1.1.1.2.1, ⟨hk.1.1.1.1.2.2.1, ⟨hk.1.1.1.1.2.2.2.1, ⟨hk.1.1.1.1.2.2.2.2, ⟨hk.1.2, hk.2⟩⟩⟩⟩⟩⟩)⟩, ⟨by (try simp only [hl343001_64]); (try simp only [hl343002_64]); (with_reducible repeat (first | apply xA | apply xN | apply xD)); exact xM p4'.out (fun _ hk => ⟨hk.1.1.1.1.1, ⟨hk.1.1.1.1.2.1, ⟨hk.1.1.1.1.2.2.1, ⟨hk.1.1.1.1.2.2.2.1, ⟨hk.1.1.1.1.2.2.2.2, ⟨hk.1.2, hk.2⟩⟩⟩⟩⟩⟩)⟩, ⟨by (try simp only [hl343001_64]); (try simp only [hl343002_64]); (with_reducible repeat (first | apply xA | apply xN | apply xD)); exact xM p5'.out (fun _ hk => ⟨hk.1.1.1.1.1, ⟨hk.1.1.1.1.2.1, ⟨hk.1.1.1.1.2.2.1, ⟨hk.1.1.1.1.2.2.2.1, ⟨hk.1.1.1.1.2.2.2.2, ⟨hk.1.2, hk.2⟩⟩⟩⟩⟩⟩)⟩, ⟨by (try simp only [hl343001_64]); (try simp only [hl343002_64]); (with_reducible repeat (first | apply xA | apply xN | apply xD)); exact xM HO379.out (fun _ hk => ⟨hk.1.1.1.1.1.1.1.2, ⟨hk.1.1.1.1.1.1.2, ⟨hk.1.1.1.1.1.2, ⟨hk.1.1.1.1.2, ⟨hk.1.1.1.2, ⟨hk.1.1.2, hk.1.1.1.1.1.1.1.1⟩⟩⟩⟩⟩⟩)⟩, ⟨by (try simp only [hl343001_64]); (try simp only [hl343002_64]); (with_reducible repeat (first | apply xA | apply xN | apply xD)); exact xM HO382.out (fun _ hk => ⟨hk.1.1.1.1.1.1.1.2, ⟨hk.1.1.1.1.1.1.2, ⟨hk.1.1.1.1.1.2, ⟨hk.1.1.1.1.2, ⟨hk.1.1.1.2, ⟨hk.1.1.2, hk.1.1.1.1.1.1.1.1⟩⟩⟩⟩⟩⟩)⟩, ⟨by (try simp only [hl343001_64]); (try simp only [hl343002_64]); (with_reducible repeat (first | refine yN ?_ _ | refine yD ?_ | refine yA ?_ _)); exact BK317.out⟩, ⟨by (try simp only [hl343001_64]); (try simp only [hl343002_64]); (with_reducible repeat (first | refine yN ?_ _ | refine yD ?_ | refine yA ?_ _)); exact BK334.out⟩, ⟨by (try simp only [hl343001_64]); (try simp only [hl343002_64]); (with_reducible repeat (first | refine yN ?_ _ | refine yD ?_ | refine yA ?_ _)); exact BK342.out⟩, ⟨by (try simp only [hl343001_64]); (try simp only [hl343002_64]); (with_reducible repeat (first | refine yN ?_ _ | refine yD ?_ | refine yA ?_ _)); exact BK351.out⟩, ⟨by (try simp only [hl343001_64]); (try simp only [hl343002_64]); (with_reducible repeat (first | refine yN ?_ _ | refine yD ?_ | refine yA ?_ _)); exact BK384.out⟩, ⟨zH HB.out⟩⟩
           case rest =>
            clear HC109
            (try clear c1); (try clear c2); (try clear p2); (try clear c3); (try clear c4); (try clear c4b0); (try clear c5); (try clear c6); (try clear c7); (try clear c8); (try clear c9); (try clear c10); (try clear c11); (try clear c12); (try clear c13); (try clear c14); (try clear c15); (try clear c22); (try clear c29); (try clear c30); (try clear c36); (try clear c37); (try clear c38); (try clear c43); (try clear c44); (try clear c45); (try clear c46); (try clear c48); (try clear c49); (try clear c52); (try clear c53); (try clear c54); (try clear c56); (try clear c57); (try clear c60); (try clear c63); (try clear c71); (try clear c72); (try clear c73); (try clear c76); (try clear c76b0); (try clear c78); (try clear c79); (try clear c80); (try clear c81); (try clear c83); (try clear c84); (try clear c87); (try clear c88); (try clear c89); (try clear c91); (try clear c92); (try clear c95); (try clear c98); (try clear c98b0); (try clear c99); (try clear c100); (try clear c101); (try clear c106); (try clear c106b0); (try clear c106b1); (try clear c110); (try clear c111); (try clear c112); (try clear c117); (try clear c118); (try clear c125); (try clear c126); (try clear c127); (try clear c128); (try clear c133); (try clear c134); (try clear c135); (try clear c136); (try clear c137); (try clear c139); (try clear c140); (try clear c141); (try clear c144); (try clear c145); (try clear c146); (try clear c147); (try clear c149); (try clear c150); (try clear c151); (try clear hcz102_0); (try clear hcz102_1); (try clear hcz102_2); (try clear hcz104_0); (try clear hcz104_1); (try clear hcz104_2); (try clear hcz113_0); (try clear hcz113_1); (try clear hcz113_2); (try clear hcz115_0); (try clear hcz115_1); (try clear hcz115_2); (try clear hcz119_0); (try clear hcz119_1); (try clear hcz119_2); (try clear hcz129_0); (try clear hcz129_1); (try clear hcz129_2); (try clear hcz138_0); (try clear hcz138_1); (try clear hcz138_2); (try clear hcz142_0); (try clear hcz142_1); (try clear hcz142_2); (try clear hcz148_0); (try clear hcz148_1); (try clear hcz148_2); (try clear hcz14_0); (try clear hcz14_1); (try clear hcz14_2); (try clear hcz152_0); (try clear hcz152_1); (try clear hcz152_2); (try clear hcz16_0); (try clear hcz16_1); (try clear hcz16_2); (try clear hcz23_0); (try clear hcz23_1); (try clear hcz23_2); (try clear hcz26_0); (try clear hcz26_1); (try clear hcz26_2); (try clear hcz31_0); (try clear hcz31_1); (try clear hcz31_2); (try clear hcz39_0); (try clear hcz39_1); (try clear hcz39_2); (try clear hcz47_0); (try clear hcz47_1); (try clear hcz47_2); (try clear hcz50_0); (try clear hcz50_1); (try clear hcz50_2); (try clear hcz55_0); (try clear hcz55_1); (try clear hcz55_2); (try clear hcz58_0); (try clear hcz58_1); (try clear hcz58_2); (try clear hcz6_0); (try clear hcz6_1); (try clear hcz6_2); (try clear hcz74_0); (try clear hcz74_1); (try clear hcz74_2); (try clear hcz82_0); (try clear hcz82_1); (try clear hcz82_2); (try clear hcz85_0); (try clear hcz85_1); (try clear hcz85_2); (try clear hcz90_0); (try clear hcz90_1); (try clear hcz90_2); (try clear hcz93_0); (try clear hcz93_1); (try clear hcz93_2); (try clear hfz102_0); (try clear hfz102_1); (try clear hfz102_2); (try clear hfz104_0); (try clear hfz104_1); (try clear hfz104_2); (try clear hfz113_0); (try clear hfz113_1); (try clear hfz113_2); (try clear hfz115_0); (try clear hfz115_1); (try clear hfz115_2); (try clear hfz119_0); (try clear hfz119_1); (try clear hfz119_2); (try clear hfz129_0); (try clear hfz129_1); (try clear hfz129_2); (try clear hfz138_0); (try clear hfz138_1); (try clear hfz138_2); (try clear hfz142_0); (try clear hfz142_1); (try clear hfz142_2); (try clear hfz148_0); (try clear hfz148_1); (try clear hfz148_2); (try clear hfz14_0); (try clear hfz14_1); (try clear hfz14_2); (try clear hfz152_0); (try clear hfz152_1); (try clear hfz152_2); (try clear hfz16_0); (try clear hfz16_1); (try clear hfz16_2); (try clear hfz23_0); (try clear hfz23_1); (try clear hfz23_2); (try clear hfz26_0); (try clear hfz26_1); (try clear hfz26_2); (try clear hfz31_0); (try clear hfz31_1); (try clear hfz31_2); (try clear hfz39_0); (try clear hfz39_1); (try clear hfz39_2); (try clear hfz47_0); (try clear hfz47_1); (try clear hfz47_2); (try clear hfz50_0); (try clear hfz50_1); (try clear hfz50_2); (try clear hfz55_0); (try clear hfz55_1); (try clear hfz55_2); (try clear hfz58_0); (try clear hfz58_1); (try clear hfz58_2); (try clear hfz6_0); (try clear hfz6_1); (try clear hfz6_2); (try clear hfz74_0); (try clear hfz74_1); (try clear hfz74_2); (try clear hfz82_0); (try clear hfz82_1); (try clear hfz82_2); (try clear hfz85_0); (try clear hfz85_1); (try clear hfz85_2); (try clear hfz90_0); (try clear hfz90_1); (try clear hfz90_2); (try clear hfz93_0); (try clear hfz93_1); (try clear hfz93_2); (try clear p2)
            obtain ⟨kq, x92_108, rfl, HA, HJ108, p0', p1', p2', p3', p4', p5', p6', p7', BK317, BK334, BK342, BK351, BK384, HB⟩ := hcut
            have hl352001_108 := (Kd.R_reads' p4'.out).1
            rw [hl352001_108] at p4'
            (try simp only [hl352001_108])
            (try simp only [hl352001_108] at BK317)
            (try simp only [hl352001_108] at BK334)
            (try simp only [hl352001_108] at BK342)
            (try simp only [hl352001_108] at BK351)
            (try simp only [hl352001_108] at BK384)
            (try simp only [hl352001_108] at p0')
            (try simp only [hl352001_108] at p1')
            (try simp only [hl352001_108] at p2')
            (try simp only [hl352001_108] at p3')
            (try simp only [hl352001_108] at p5')
            (try simp only [hl352001_108] at p6')
            (try simp only [hl352001_108] at p7')
            have hl352002_108 := (Kd.R_reads' p5'.out).1
            rw [hl352002_108] at p5'
            (try simp only [hl352002_108])
            (try simp only [hl352002_108] at BK317)
            (try simp only [hl352002_108] at BK334)
            (try simp only [hl352002_108] at BK342)
            (try simp only [hl352002_108] at BK351)
            (try simp only [hl352002_108] at BK384)
            (try simp only [hl352002_108] at p0')
            (try simp only [hl352002_108] at p1')
            (try simp only [hl352002_108] at p2')
            (try simp only [hl352002_108] at p3')
            (try simp only [hl352002_108] at p4')
            (try simp only [hl352002_108] at p6')
            (try simp only [hl352002_108] at p7')
            cases kq with
            | zero => exact absurd HA.out (fun h_ => by change none = some _ at h_; cases h_)
            | succ kj108 =>
             have H := HA.out
             clear HA
             simp only [laws_FnExactGiveBlock.j2] at H
             by_cases c154 : x92_108 = true
             ·subst c154
              have H1 : (some false) = some r := by rw [if_pos rfl] at H; exact H
              clear H
              have H := H1
              clear H1
              exact absurd (H.trans (congrArg some HR_.out)) (by decide)
             ·replace c154 := Bool.eq_false_iff.mpr c154
              subst c154
              have H1 : ((laws_heldBuddy.f kj108 t343 t366 t367 1).bind fun t386 => (if t386 < 0 then (some false) else (if t386 = t365 then (some true) else (some false)))) = some r := by rw [if_neg (show ¬ (false = true) by decide)] at H; exact H
              clear H
              have H := H1
              clear H1
              replace H := Option.bind_eq_some_iff.mp H
              obtain ⟨t386, A1550, H⟩ := H
              replace H : (if t386 < 0 then (some false) else (if t386 = t365 then (some true) else (some false))) = some r := H
              have A155 := aM A1550
              clear A1550
              by_cases c156 : t386 < 0
              ·rw [if_pos c156] at H
               have c156b0 : decide (t386 < 0) = true := decide_eq_true c156
               clear c156
               obtain rfl := Option.some.inj H
               have hnb157 := NB351_317.out
               have hnc157 := NB317_351.out
               have hnb158 := NB351_334.out
               have hnc158 := NB334_351.out
               have hnb159 := NB351_342.out
               have hnc159 := NB342_351.out
               have hnb160 := NB351_384.out
               have hnc160 := NB384_351.out
               have hcz161_0 : wc.cell? ⟨gb351, 0, none⟩ = some (.int .i64 t343) := yc BK351.out 0
               have hcz161_1 : wc.cell? ⟨gb351, 1, none⟩ = some (.slice Ao40 t366.length co40) := yc BK351.out 1
               have hcz161_2 : wc.cell? ⟨gb351, 2, none⟩ = some (.slice Ao41 t367.length co41) := yc BK351.out 2
               have hfz161_0 := yZ BK351.out 0
               have hfz161_1 := yZ BK351.out 1
               have hfz161_2 := yZ BK351.out 2
               go_wp2_with (first | ((with_reducible refine gate_callee (f := 14) rfl ?_); refine goesL_ (some 95) rfl rfl Try.func14 (by kernel_rfl) rfl #[.agg #[.int .i64 t343, .slice Ao40 t366.length co40, .slice Ao41 t367.length co41], .int .i64 1] rfl (by (try simp only [List.map_toArray, List.map_cons, List.map_nil]); first | done | rfl | (simp only [List.length_drop, List.length_take]; rfl)) ?_; (with_reducible refine (laws_heldBuddy.calls kj108 t343 _ _ t366 _ _ t367 1 t386 _ ?side1 ?side2 ?side3 ?side4 A155.out).mono ?_); (case side1 => repeat (first | exact (Kd.R_reads' p4'.out).2.2 | (with_reducible refine cA ?_ _) | (with_reducible refine cN ?_ _) | (with_reducible refine cD ?_))); (case side2 => exact (Kd.R_reads' p4'.out).2.1); (case side3 => repeat (first | exact (Kd.R_reads' p5'.out).2.2 | (with_reducible refine cA ?_ _) | (with_reducible refine cN ?_ _) | (with_reducible refine cD ?_))); (case side4 => exact (Kd.R_reads' p5'.out).2.1); rintro e w162 ⟨rfl, hb⟩; refine ⟨_, rfl, ?_⟩; replace p0' := xK p0'.out hb; replace p1' := xK p1'.out hb; replace p2' := xK p2'.out hb; replace p3' := xK p3'.out hb; replace p4' := xK p4'.out hb; replace p5' := xK p5'.out hb; replace p6' := xK p6'.out hb; replace p7' := xK p7'.out hb; replace BK317 := yK BK317.out hb; replace BK334 := yK BK334.out hb; replace BK342 := yK BK342.out hb; replace BK351 := yK BK351.out hb; replace BK384 := yK BK384.out hb; replace HB := aM (zT (zH HB.out) hb); (try clear hb)))
               go_ret
               exact ⟨by first | rfl | (simp [errW_none, errW_some] <;> rfl) | (simp [*, errW_none, errW_some] <;> rfl), zH HB.out⟩
              ·rw [if_neg c156] at H
               have c156b0 : decide (t386 < 0) = false := decide_eq_false c156
               clear c156
               by_cases c163 : t386 = t365
               ·rw [if_pos c163] at H
                have c163b0 : (t386 == t365) = true := beq_iff_eq.mpr c163
                have c163b1 : (t386 != t365) = false := bne_eq_false_iff_eq.mpr c163
                clear c163
                obtain rfl := Option.some.inj H
                have hnb164 := NB351_317.out
                have hnc164 := NB317_351.out
                have hnb165 := NB351_334.out
                have hnc165 := NB334_351.out
                have hnb166 := NB351_342.out
                have hnc166 := NB342_351.out
                have hnb167 := NB351_384.out
                have hnc167 := NB384_351.out
                have hcz168_0 : wc.cell? ⟨gb351, 0, none⟩ = some (.int .i64 t343) := yc BK351.out 0
                have hcz168_1 : wc.cell? ⟨gb351, 1, none⟩ = some (.slice Ao40 t366.length co40) := yc BK351.out 1
                have hcz168_2 : wc.cell? ⟨gb351, 2, none⟩ = some (.slice Ao41 t367.length co41) := yc BK351.out 2
                have hfz168_0 := yZ BK351.out 0
                have hfz168_1 := yZ BK351.out 1
                have hfz168_2 := yZ BK351.out 2
                go_wp2_with (first | ((with_reducible refine gate_callee (f := 14) rfl ?_); refine goesL_ (some 95) rfl rfl Try.func14 (by kernel_rfl) rfl #[.agg #[.int .i64 t343, .slice Ao40 t366.length co40, .slice Ao41 t367.length co41], .int .i64 1] rfl (by (try simp only [List.map_toArray, List.map_cons, List.map_nil]); first | done | rfl | (simp only [List.length_drop, List.length_take]; rfl)) ?_; (with_reducible refine (laws_heldBuddy.calls kj108 t343 _ _ t366 _ _ t367 1 t386 _ ?side1 ?side2 ?side3 ?side4 A155.out).mono ?_); (case side1 => repeat (first | exact (Kd.R_reads' p4'.out).2.2 | (with_reducible refine cA ?_ _) | (with_reducible refine cN ?_ _) | (with_reducible refine cD ?_))); (case side2 => exact (Kd.R_reads' p4'.out).2.1); (case side3 => repeat (first | exact (Kd.R_reads' p5'.out).2.2 | (with_reducible refine cA ?_ _) | (with_reducible refine cN ?_ _) | (with_reducible refine cD ?_))); (case side4 => exact (Kd.R_reads' p5'.out).2.1); rintro e w169 ⟨rfl, hb⟩; refine ⟨_, rfl, ?_⟩; replace p0' := xK p0'.out hb; replace p1' := xK p1'.out hb; replace p2' := xK p2'.out hb; replace p3' := xK p3'.out hb; replace p4' := xK p4'.out hb; replace p5' := xK p5'.out hb; replace p6' := xK p6'.out hb; replace p7' := xK p7'.out hb; replace BK317 := yK BK317.out hb; replace BK334 := yK BK334.out hb; replace BK342 := yK BK342.out hb; replace BK351 := yK BK351.out hb; replace BK384 := yK BK384.out hb; replace HB := aM (zT (zH HB.out) hb); (try clear hb)))
                go_ret
                exact ⟨by first | rfl | (simp [errW_none, errW_some] <;> rfl) | (simp [*, errW_none, errW_some] <;> rfl), zH HB.out⟩
               ·rw [if_neg c163] at H
                have c163b0 : (t386 == t365) = false := beq_eq_false_iff_ne.mpr c163
                have c163b1 : (t386 != t365) = true := bne_iff_ne.mpr c163
                obtain rfl := Option.some.inj H
                have hnb170 := NB351_317.out
                have hnc170 := NB317_351.out
                have hnb171 := NB351_334.out
                have hnc171 := NB334_351.out
                have hnb172 := NB351_342.out
                have hnc172 := NB342_351.out
                have hnb173 := NB351_384.out
                have hnc173 := NB384_351.out
                have hcz174_0 : wc.cell? ⟨gb351, 0, none⟩ = some (.int .i64 t343) := yc BK351.out 0
                have hcz174_1 : wc.cell? ⟨gb351, 1, none⟩ = some (.slice Ao40 t366.length co40) := yc BK351.out 1
                have hcz174_2 : wc.cell? ⟨gb351, 2, none⟩ = some (.slice Ao41 t367.length co41) := yc BK351.out 2
                have hfz174_0 := yZ BK351.out 0
                have hfz174_1 := yZ BK351.out 1
                have hfz174_2 := yZ BK351.out 2
                go_wp2_with (first | ((with_reducible refine gate_callee (f := 14) rfl ?_); refine goesL_ (some 95) rfl rfl Try.func14 (by kernel_rfl) rfl #[.agg #[.int .i64 t343, .slice Ao40 t366.length co40, .slice Ao41 t367.length co41], .int .i64 1] rfl (by (try simp only [List.map_toArray, List.map_cons, List.map_nil]); first | done | rfl | (simp only [List.length_drop, List.length_take]; rfl)) ?_; (with_reducible refine (laws_heldBuddy.calls kj108 t343 _ _ t366 _ _ t367 1 t386 _ ?side1 ?side2 ?side3 ?side4 A155.out).mono ?_); (case side1 => repeat (first | exact (Kd.R_reads' p4'.out).2.2 | (with_reducible refine cA ?_ _) | (with_reducible refine cN ?_ _) | (with_reducible refine cD ?_))); (case side2 => exact (Kd.R_reads' p4'.out).2.1); (case side3 => repeat (first | exact (Kd.R_reads' p5'.out).2.2 | (with_reducible refine cA ?_ _) | (with_reducible refine cN ?_ _) | (with_reducible refine cD ?_))); (case side4 => exact (Kd.R_reads' p5'.out).2.1); rintro e w175 ⟨rfl, hb⟩; refine ⟨_, rfl, ?_⟩; replace p0' := xK p0'.out hb; replace p1' := xK p1'.out hb; replace p2' := xK p2'.out hb; replace p3' := xK p3'.out hb; replace p4' := xK p4'.out hb; replace p5' := xK p5'.out hb; replace p6' := xK p6'.out hb; replace p7' := xK p7'.out hb; replace BK317 := yK BK317.out hb; replace BK334 := yK BK334.out hb; replace BK342 := yK BK342.out hb; replace BK351 := yK BK351.out hb; replace BK384 := yK BK384.out hb; replace HB := aM (zT (zH HB.out) hb); (try clear hb)))
                go_ret
                exact ⟨by first | rfl | (simp [errW_none, errW_some] <;> rfl) | (simp [*, errW_none, errW_some] <;> rfl), zH HB.out⟩
          ·rw [if_neg c106] at H
           have c106b0 : (t368 == t365) = false := beq_eq_false_iff_ne.mpr c106
           have c106b1 : (t368 != t365) = true := bne_iff_ne.mpr c106
           obtain rfl := Option.some.inj H
           have hnb176 := NB351_317.out
           have hnc176 := NB317_351.out
           have hnb177 := NB351_334.out
           have hnc177 := NB334_351.out
           have hnb178 := NB351_342.out
           have hnc178 := NB342_351.out
           have hcz179_0 : wc.cell? ⟨gb351, 0, none⟩ = some (.int .i64 t343) := yc BK351.out 0
           have hcz179_1 : wc.cell? ⟨gb351, 1, none⟩ = some (.slice Ao40 t344.length co40) := yc BK351.out 1
           have hcz179_2 : wc.cell? ⟨gb351, 2, none⟩ = some (.slice Ao41 t347.length co41) := yc BK351.out 2
           have hfz179_0 := yZ BK351.out 0
           have hfz179_1 := yZ BK351.out 1
           have hfz179_2 := yZ BK351.out 2
           go_wp2_with (first | ((with_reducible refine gate_callee (f := 13) rfl ?_); refine goesL_ (some 68) rfl rfl Try.func13 (by kernel_rfl) rfl #[.agg #[.int .i64 t343, .slice Ao40 t344.length co40, .slice Ao41 t347.length co41], .int .i64 1] rfl (by (try simp only [List.map_toArray, List.map_cons, List.map_nil]); first | done | rfl | (simp only [List.length_drop, List.length_take]; rfl)) ?_; (with_reducible refine (laws_markBuddy.calls kj64 t343 (fun k_ => some k_ = oB Ao40 t344.length co40) (.slice Ao40 t344.length co40) t344 (fun k_ => some k_ = oB Ao41 t347.length co41) (.slice Ao41 t347.length co41) t347 1 t365 t366 t367 w _ ?side1 ?side2 ?side3 ?side4 ?side5 A96.out).mono ?_); (case side1 => repeat (first | (with_reducible first | exact HB.out | apply zA | apply zN | apply zD | refine zS ?_ GE317.out | refine zS ?_ GE334.out | refine zS ?_ GE342.out | refine zS ?_ GE351.out) | exact HB.out)); (case side2 => exact Kd.R_tight rfl p4'.out); (case side3 => exact fun k_ e_ => (p4'.out.1 k_ e_.symm).2.2.2.2); (case side4 => exact Kd.R_tight rfl p5'.out); (case side5 => exact fun k_ e_ => (p5'.out.1 k_ e_.symm).2.2.2.2); rintro e w180 ⟨rfl, hy0, hy1, hb, hkp⟩; refine ⟨_, rfl, ?_⟩; replace p0' := kB p0'.out hkp (fun k_ hk_ hs_ => Or.elim hs_ (fun e_ => (hk_.2.2.2.1) e_) (fun e_ => (hk_.2.2.2.2) e_)); replace p1' := kB p1'.out hkp (fun k_ hk_ hs_ => Or.elim hs_ (fun e_ => (hk_.2.2.2.1) e_) (fun e_ => (hk_.2.2.2.2) e_)); replace p2' := kB p2'.out hkp (fun k_ hk_ hs_ => Or.elim hs_ (fun e_ => (hk_.2.2.2.1) e_) (fun e_ => (hk_.2.2.2.2) e_)); replace p3' := kB p3'.out hkp (fun k_ hk_ hs_ => Or.elim hs_ (fun e_ => (hk_.2.2.2.1) e_) (fun e_ => (hk_.2.2.2.2) e_)); replace BK317 := aM (blk_kept BK317.out hkp (fun hs_ => Or.elim hs_ (fun e_ => (fun e_ => (Kd.R_ne p4'.out BK317.out (by decide)) e_) e_) (fun e_ => (fun e_ => (Kd.R_ne p5'.out BK317.out (by decide)) e_) e_))); replace BK334 := aM (blk_kept BK334.out hkp (fun hs_ => Or.elim hs_ (fun e_ => (fun e_ => (Kd.R_ne p4'.out BK334.out (by decide)) e_) e_) (fun e_ => (fun e_ => (Kd.R_ne p5'.out BK334.out (by decide)) e_) e_))); replace BK342 := aM (blk_kept BK342.out hkp (fun hs_ => Or.elim hs_ (fun e_ => (fun e_ => (Kd.R_ne p4'.out BK342.out (by decide)) e_) e_) (fun e_ => (fun e_ => (Kd.R_ne p5'.out BK342.out (by decide)) e_) e_))); replace BK351 := aM (blk_kept BK351.out hkp (fun hs_ => Or.elim hs_ (fun e_ => (fun e_ => (Kd.R_ne p4'.out BK351.out (by decide)) e_) e_) (fun e_ => (fun e_ => (Kd.R_ne p5'.out BK351.out (by decide)) e_) e_))); replace p4' := aM (Kd.R_reok rfl hy0 (fun k_ e_ => p4'.out.1 k_ e_)); replace p5' := aM (Kd.R_reok rfl hy1 (fun k_ e_ => p5'.out.1 k_ e_)); replace HB := aM (hb); (try clear hb); (try clear hkp); (try clear hy0); (try clear hy1); have hcz181_0 : w180.cell? ⟨gb351, 0, none⟩ = some (.int .i64 t343) := yc BK351.out 0; have hcz181_1 : w180.cell? ⟨gb351, 1, none⟩ = some (.slice Ao40 t344.length co40) := yc BK351.out 1; have hcz181_2 : w180.cell? ⟨gb351, 2, none⟩ = some (.slice Ao41 t347.length co41) := yc BK351.out 2; have hfz181_0 := yZ BK351.out 0; have hfz181_1 := yZ BK351.out 1; have hfz181_2 := yZ BK351.out 2) | ((with_reducible refine gate_callee (f := 14) rfl ?_); refine goesL_ (some 71) rfl rfl Try.func14 (by kernel_rfl) rfl #[.agg #[.int .i64 t343, .slice Ao40 t366.length co40, .slice Ao41 t367.length co41], .int .i64 1] rfl (by (try simp only [List.map_toArray, List.map_cons, List.map_nil]); first | done | (rw [show t366.length = t344.length from (Kd.R_reads' p4'.out).1.symm, show t367.length = t347.length from (Kd.R_reads' p5'.out).1.symm] <;> rfl) | rfl | (simp only [List.length_drop, List.length_take]; rfl)) ?_; (with_reducible refine (laws_heldBuddy.calls kj64 t343 _ _ t366 _ _ t367 1 t368 _ ?side1 ?side2 ?side3 ?side4 A97.out).mono ?_); (case side1 => repeat (first | exact (Kd.R_reads' p4'.out).2.2 | (with_reducible refine cA ?_ _) | (with_reducible refine cN ?_ _) | (with_reducible refine cD ?_))); (case side2 => rw [show t366.length = t344.length from (Kd.R_reads' p4'.out).1.symm]; exact (Kd.R_reads' p4'.out).2.1); (case side3 => repeat (first | exact (Kd.R_reads' p5'.out).2.2 | (with_reducible refine cA ?_ _) | (with_reducible refine cN ?_ _) | (with_reducible refine cD ?_))); (case side4 => rw [show t367.length = t347.length from (Kd.R_reads' p5'.out).1.symm]; exact (Kd.R_reads' p5'.out).2.1); rintro e w182 ⟨rfl, hb⟩; refine ⟨_, rfl, ?_⟩; replace p0' := xK p0'.out hb; replace p1' := xK p1'.out hb; replace p2' := xK p2'.out hb; replace p3' := xK p3'.out hb; replace p4' := xK p4'.out hb; replace p5' := xK p5'.out hb; replace BK317 := yK BK317.out hb; replace BK334 := yK BK334.out hb; replace BK342 := yK BK342.out hb; replace BK351 := yK BK351.out hb; replace HB := aM (zT (zH HB.out) hb); (try clear hb)))
           go_ret
           exact ⟨by first | rfl | (simp [errW_none, errW_some] <;> rfl) | (simp [*, errW_none, errW_some] <;> rfl), zH HB.out⟩
     ·replace c63 := Bool.eq_false_iff.mpr c63
      subst c63
      have H1 : (some false) = some r := by rw [if_neg (show ¬ (false = true) by decide)] at H; exact H
      clear H
      have H := H1
      clear H1
      exact absurd (H.trans (congrArg some HR_.out)) (by decide)
def okS80 (x : S80) : Prop := (Lit.int .i64 x.f0).wf = true ∧ (Lit.int .i64 x.f1).wf = true
/-- The one pure statement of laws_FnExactGiveBlock. -/
def laws_FnExactGiveBlock.PureG : Prop := ∀ (a0_0 : Int) (l0_1 : List (S80)) (l0_2 : List (S80)) (a1 : Int), (Lit.int .i64 a0_0).wf = true → (l0_1.length ≤ maxLen ∧ ∀ x_ ∈ l0_1, okS80 x_) → (l0_2.length ≤ maxLen ∧ ∀ x_ ∈ l0_2, okS80 x_) → (Lit.int .i64 a1).wf = true → ∃ k, laws_FnExactGiveBlock.f k a0_0 l0_1 l0_2 a1 = some true

end Go.Proofs.Ytbjcioihomeikaa.PFnExactGiveBlock
