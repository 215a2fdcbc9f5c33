/- The walks of FnExactCrashDevice: Go's calls come to what the Lean functions beside them say; no condition. -/
import Derived.Test.YtlhgkbleciokmaaQFnExactCrashDevicex0
import Derived.Test.YtlhgkbleciokmaaQFnExactCrashDevicex1
import Derived.Test.YtlhgkbleciokmaaQFnExactCrashDevicex2
import Derived.Test.YtlhgkbleciokmaaQFnExactCrashDevicex3
import Derived.Test.YtlhgkbleciokmaaQFnExactCrashDevicex5
import Derived.Test.YtlhgkbleciokmaaQFnExactCrashDevicex6
namespace Go.Proofs.Ytlhgkbleciokmaa.PFnExactCrashDevice
open Go.RowKit Go.Proofs.YtlhgkbleciokmaaW.PrintWords Go.Proofs.YtlhgkbleciokmaaW.PrintLast Go.Proofs.YtlhgkbleciokmaaW.PrintMore
attribute [local go_sem] max2_int min2_int max_two min_two max_three min_three max_four min_four   -- for this text's walks alone
set_option linter.unusedVariables false
set_option linter.unusedSimpArgs false
set_option maxRecDepth 100000

/-! ### laws_FnExactCrashDevice: function 8 -/
mutual
def laws_FnExactCrashDevice.j0 : Nat → List Bool → Bool → List Bool → Bool → Bool → List ByteArray → List (S38) → List ByteArray → List (S42) → List ByteArray → List (S42) → List ByteArray → List (S42) → Option (Bool)
 | 0, _, _, _, _, _, _, _, _, _, _, _, _, _ => none
 | k + 1, x1, x7, x9, x11, x51, x205000, x205001, x223000, x223001, x230000, x230001, x241000, x241001 => if x51 = true then (some false) else ((laws_toDevice.f k x205000 x205001).bind fun bt242 => ((laws_eqDevice.f k x230000 x230001 bt242.1 bt242.2).bind fun t248 => (if t248 = true then ((laws_toBoolS.f k x1).bind fun t249 => ((laws_eqBoolS.f k x9 t249).bind fun t252 => (if t252 = true then ((laws_markDevice.f k x230000 x230001 1).bind fun bt253 => ((laws_markBoolS.f k x9 bt253.1).bind fun bt256 => (if bt256.1 < 0 then (laws_FnExactCrashDevice.j1 k x1 x7 true x205000 x205001 x223000 x223001 x241000 x241001) else ((laws_eqDevice.f k x241000 x241001 x223000 x223001).bind fun t258 => (if t258 = true then (laws_FnExactCrashDevice.j1 k x1 x7 (x11 != x7) x205000 x205001 x223000 x223001 x241000 x241001) else (laws_FnExactCrashDevice.j1 k x1 x7 true x205000 x205001 x223000 x223001 x241000 x241001)))))) else (some false)))) else (some false))))
def laws_FnExactCrashDevice.j1 : Nat → List Bool → Bool → Bool → List ByteArray → List (S38) → List ByteArray → List (S42) → List ByteArray → List (S42) → Option (Bool)
 | 0, _, _, _, _, _, _, _, _, _ => none
 | k + 1, x1, x7, x80, x205000, x205001, x223000, x223001, x241000, x241001 => if x80 = true then (some false) else ((laws_markDevice.f k x241000 x241001 1).bind fun bt259 => ((laws_heldDevice.f k bt259.2.1 bt259.2.2 1).bind fun t262 => (if t262 < 0 then (some false) else (if t262 = bt259.1 then ((laws_toDevice.f k x205000 x205001).bind fun bt263 => ((laws_toBoolS.f k x1).bind fun t269 => ((impl_CrashDevice.f bt263.1 bt263.2 t269).bind fun bt272 => ((laws_eqDevice.f k bt272.1 bt272.2.1 x223000 x223001).bind fun t280 => (if t280 = true then (laws_FnExactCrashDevice.j2 k bt259.1 (bt272.2.2 != x7) bt259.2.1 bt259.2.2) else (laws_FnExactCrashDevice.j2 k bt259.1 true bt259.2.1 bt259.2.2)))))) else (some false)))))
def laws_FnExactCrashDevice.j2 : Nat → Int → Bool → List ByteArray → List (S42) → Option (Bool)
 | 0, _, _, _, _ => none
 | k + 1, x13, x108, x241000, x241001 => if x108 = true then (some false) else ((laws_heldDevice.f k x241000 x241001 1).bind fun t281 => (if t281 < 0 then (some false) else (if t281 = x13 then (some true) else (some false))))
end
def laws_FnExactCrashDevice.f (k : Nat) (l0_0 : List ByteArray) (l0_1 : List (S38)) (l1 : List Bool) : Option (Bool) := if (l1.length : Int) > 1048576 then (some true) else ((laws_szDevice.f k l0_0 l0_1 1048576).bind fun t205 => (if t205 < 0 then (some true) else ((laws_toDevice.f k l0_0 l0_1).bind fun bt206 => ((laws_toBoolS.f k l1).bind fun t212 => ((spec_CrashDevice.f k bt206.1 bt206.2 t212).bind fun bt215 => ((laws_toDevice.f k l0_0 l0_1).bind fun bt223 => ((laws_toBoolS.f k l1).bind fun t230 => ((impl_CrashDevice.f bt223.1 bt223.2 t230).bind fun bt233 => ((laws_eqDevice.f k bt233.1 bt233.2.1 bt215.1 bt215.2.1).bind fun t241 => (if t241 = true then (laws_FnExactCrashDevice.j0 k l1 bt215.2.2 t230 bt233.2.2 (bt233.2.2 != bt215.2.2) l0_0 l0_1 bt215.1 bt215.2.1 bt223.1 bt223.2 bt233.1 bt233.2.1) else (laws_FnExactCrashDevice.j0 k l1 bt215.2.2 t230 bt233.2.2 true l0_0 l0_1 bt215.1 bt215.2.1 bt223.1 bt223.2 bt233.1 bt233.2.1)))))))))))
theorem laws_FnExactCrashDevice.mono_l : ∀ k, (∀ y0 y1 y2 y3 y4 y5 y6 y7 y8 y9 y10 y11 y12, LeO (laws_FnExactCrashDevice.j0 k y0 y1 y2 y3 y4 y5 y6 y7 y8 y9 y10 y11 y12) (laws_FnExactCrashDevice.j0 (k + 1) y0 y1 y2 y3 y4 y5 y6 y7 y8 y9 y10 y11 y12)) ∧ (∀ y0 y1 y2 y3 y4 y5 y6 y7 y8, LeO (laws_FnExactCrashDevice.j1 k y0 y1 y2 y3 y4 y5 y6 y7 y8) (laws_FnExactCrashDevice.j1 (k + 1) y0 y1 y2 y3 y4 y5 y6 y7 y8)) ∧ (∀ y0 y1 y2 y3, LeO (laws_FnExactCrashDevice.j2 k y0 y1 y2 y3) (laws_FnExactCrashDevice.j2 (k + 1) y0 y1 y2 y3))
 | 0 => ⟨fun _ _ _ _ _ _ _ _ _ _ _ _ _ r h => by simp [laws_FnExactCrashDevice.j0] at h, fun _ _ _ _ _ _ _ _ _ r h => by simp [laws_FnExactCrashDevice.j1] at h, fun _ _ _ _ r h => by simp [laws_FnExactCrashDevice.j2] at h⟩
 | k + 1 => by
  obtain ⟨ih0, ih1, ih2⟩ := laws_FnExactCrashDevice.mono_l k
  refine ⟨?_, ?_, ?_⟩
  ·intro y0 y1 y2 y3 y4 y5 y6 y7 y8 y9 y10 y11 y12
   unfold laws_FnExactCrashDevice.j0
   repeat' first
   | (with_reducible exact ih0 _ _ _ _ _ _ _ _ _ _ _ _ _)
   | (with_reducible exact ih1 _ _ _ _ _ _ _ _ _)
   | (with_reducible exact ih2 _ _ _ _)
   | (with_reducible exact laws_eqBoolS.mono _ _ _)
   | (with_reducible exact laws_eqDevice.mono _ _ _ _ _)
   | (with_reducible exact laws_heldDevice.mono _ _ _ _)
   | (with_reducible exact laws_markBoolS.mono _ _ _)
   | (with_reducible exact laws_markDevice.mono _ _ _ _)
   | (with_reducible exact laws_szDevice.mono _ _ _ _)
   | (with_reducible exact laws_toBoolS.mono _ _)
   | (with_reducible exact laws_toDevice.mono _ _ _)
   | (with_reducible exact spec_CrashDevice.mono _ _ _ _)
   | (with_reducible exact LeO.refl _)
   | (with_reducible exact LeO.none _)
   | (with_reducible refine LeO.ite ?_ ?_)
   | (with_reducible refine LeO.bind ?_ (fun _ => ?_))
   | exact ih0 _ _ _ _ _ _ _ _ _ _ _ _ _
   | exact ih1 _ _ _ _ _ _ _ _ _
   | exact ih2 _ _ _ _
   | exact laws_eqBoolS.mono _ _ _
   | exact laws_eqDevice.mono _ _ _ _ _
   | exact laws_heldDevice.mono _ _ _ _
   | exact laws_markBoolS.mono _ _ _
   | exact laws_markDevice.mono _ _ _ _
   | exact laws_szDevice.mono _ _ _ _
   | exact laws_toBoolS.mono _ _
   | exact laws_toDevice.mono _ _ _
   | exact spec_CrashDevice.mono _ _ _ _
   | exact LeO.none _
   | refine LeO.ite ?_ ?_
   | refine LeO.bind ?_ (fun _ => ?_)
  ·intro y0 y1 y2 y3 y4 y5 y6 y7 y8
   unfold laws_FnExactCrashDevice.j1
   repeat' first
   | (with_reducible exact ih0 _ _ _ _ _ _ _ _ _ _ _ _ _)
   | (with_reducible exact ih1 _ _ _ _ _ _ _ _ _)
   | (with_reducible exact ih2 _ _ _ _)
   | (with_reducible exact laws_eqBoolS.mono _ _ _)
   | (with_reducible exact laws_eqDevice.mono _ _ _ _ _)
   | (with_reducible exact laws_heldDevice.mono _ _ _ _)
   | (with_reducible exact laws_markBoolS.mono _ _ _)
   | (with_reducible exact laws_markDevice.mono _ _ _ _)
   | (with_reducible exact laws_szDevice.mono _ _ _ _)
   | (with_reducible exact laws_toBoolS.mono _ _)
   | (with_reducible exact laws_toDevice.mono _ _ _)
   | (with_reducible exact spec_CrashDevice.mono _ _ _ _)
   | (with_reducible exact LeO.refl _)
   | (with_reducible exact LeO.none _)
   | (with_reducible refine LeO.ite ?_ ?_)
   | (with_reducible refine LeO.bind ?_ (fun _ => ?_))
   | exact ih0 _ _ _ _ _ _ _ _ _ _ _ _ _
   | exact ih1 _ _ _ _ _ _ _ _ _
   | exact ih2 _ _ _ _
   | exact laws_eqBoolS.mono _ _ _
   | exact laws_eqDevice.mono _ _ _ _ _
   | exact laws_heldDevice.mono _ _ _ _
   | exact laws_markBoolS.mono _ _ _
   | exact laws_markDevice.mono _ _ _ _
   | exact laws_szDevice.mono _ _ _ _
   | exact laws_toBoolS.mono _ _
   | exact laws_toDevice.mono _ _ _
   | exact spec_CrashDevice.mono _ _ _ _
   | exact LeO.none _
   | refine LeO.ite ?_ ?_
   | refine LeO.bind ?_ (fun _ => ?_)
  ·intro y0 y1 y2 y3
   unfold laws_FnExactCrashDevice.j2
   repeat' first
   | (with_reducible exact ih0 _ _ _ _ _ _ _ _ _ _ _ _ _)
   | (with_reducible exact ih1 _ _ _ _ _ _ _ _ _)
   | (with_reducible exact ih2 _ _ _ _)
   | (with_reducible exact laws_eqBoolS.mono _ _ _)
   | (with_reducible exact laws_eqDevice.mono _ _ _ _ _)
   | (with_reducible exact laws_heldDevice.mono _ _ _ _)
   | (with_reducible exact laws_markBoolS.mono _ _ _)
   | (with_reducible exact laws_markDevice.mono _ _ _ _)
   | (with_reducible exact laws_szDevice.mono _ _ _ _)
   | (with_reducible exact laws_toBoolS.mono _ _)
   | (with_reducible exact laws_toDevice.mono _ _ _)
   | (with_reducible exact spec_CrashDevice.mono _ _ _ _)
   | (with_reducible exact LeO.refl _)
   | (with_reducible exact LeO.none _)
   | (with_reducible refine LeO.ite ?_ ?_)
   | (with_reducible refine LeO.bind ?_ (fun _ => ?_))
   | exact ih0 _ _ _ _ _ _ _ _ _ _ _ _ _
   | exact ih1 _ _ _ _ _ _ _ _ _
   | exact ih2 _ _ _ _
   | exact laws_eqBoolS.mono _ _ _
   | exact laws_eqDevice.mono _ _ _ _ _
   | exact laws_heldDevice.mono _ _ _ _
   | exact laws_markBoolS.mono _ _ _
   | exact laws_markDevice.mono _ _ _ _
   | exact laws_szDevice.mono _ _ _ _
   | exact laws_toBoolS.mono _ _
   | exact laws_toDevice.mono _ _ _
   | exact spec_CrashDevice.mono _ _ _ _
   | exact LeO.none _
   | refine LeO.ite ?_ ?_
   | refine LeO.bind ?_ (fun _ => ?_)
theorem laws_FnExactCrashDevice.mono : ∀ a0 a1 a2 k, LeO (laws_FnExactCrashDevice.f k a0 a1 a2) (laws_FnExactCrashDevice.f (k + 1) a0 a1 a2) := by
 intro a0 a1 a2 k
 obtain ⟨ih0, ih1, ih2⟩ := laws_FnExactCrashDevice.mono_l k
 unfold laws_FnExactCrashDevice.f
 repeat' first
   | (with_reducible exact ih0 _ _ _ _ _ _ _ _ _ _ _ _ _)
   | (with_reducible exact ih1 _ _ _ _ _ _ _ _ _)
   | (with_reducible exact ih2 _ _ _ _)
   | (with_reducible exact laws_eqBoolS.mono _ _ _)
   | (with_reducible exact laws_eqDevice.mono _ _ _ _ _)
   | (with_reducible exact laws_heldDevice.mono _ _ _ _)
   | (with_reducible exact laws_markBoolS.mono _ _ _)
   | (with_reducible exact laws_markDevice.mono _ _ _ _)
   | (with_reducible exact laws_szDevice.mono _ _ _ _)
   | (with_reducible exact laws_toBoolS.mono _ _)
   | (with_reducible exact laws_toDevice.mono _ _ _)
   | (with_reducible exact spec_CrashDevice.mono _ _ _ _)
   | (with_reducible exact LeO.refl _)
   | (with_reducible exact LeO.none _)
   | (with_reducible refine LeO.ite ?_ ?_)
   | (with_reducible refine LeO.bind ?_ (fun _ => ?_))
   | exact ih0 _ _ _ _ _ _ _ _ _ _ _ _ _
   | exact ih1 _ _ _ _ _ _ _ _ _
   | exact ih2 _ _ _ _
   | exact laws_eqBoolS.mono _ _ _
   | exact laws_eqDevice.mono _ _ _ _ _
   | exact laws_heldDevice.mono _ _ _ _
   | exact laws_markBoolS.mono _ _ _
   | exact laws_markDevice.mono _ _ _ _
   | exact laws_szDevice.mono _ _ _ _
   | exact laws_toBoolS.mono _ _
   | exact laws_toDevice.mono _ _ _
   | exact spec_CrashDevice.mono _ _ _ _
   | exact LeO.none _
   | refine LeO.ite ?_ ?_
   | refine LeO.bind ?_ (fun _ => ?_)
set_option maxHeartbeats 8000000 in
set_option maxRecDepth 100000 in
theorem laws_FnExactCrashDevice.calls (k : Nat) (A0_0 : Option Addr) (c0_0 : Nat) (l0_0 : List ByteArray) (A0_1 : Option Addr) (c0_1 : Nat) (l0_1 : List (S38)) (A1 : Option Addr) (c1 : Nat) (l1 : List Bool) (r : Bool) (w : World) (hr0_0 : Kd.C Kd.string w A0_0 l0_0.length l0_0) (hc0_0 : l0_0.length ≤ c0_0) (hr0_1 : Kd.C k38 w A0_1 l0_1.length l0_1) (hc0_1 : l0_1.length ≤ c0_1) (hr1 : Kd.C Kd.bool w A1 l1.length l1) (hc1 : l1.length ≤ c1) (h : laws_FnExactCrashDevice.f k l0_0 l0_1 l1 = some r) (hr_ : r = true := by rfl) :
  Calls Try.prog 8 #[.agg #[.slice A0_0 l0_0.length c0_0, .slice A0_1 l0_1.length c0_1], .slice A1 l1.length c1] w fun e w' => e = .returned (.bool r) ∧ Below w.heap.size w w' := by
 have HR_ := aM hr_
 clear hr_
 have hu25 := Try.underlying25
 have hu30 := Try.underlying30
 have HR0_0 := aM hr0_0
 have HC0_0 := aM hc0_0
 clear hr0_0 hc0_0
 have HR0_1 := aM hr0_1
 have HC0_1 := aM hc0_1
 clear hr0_1 hc0_1
 have HR1 := aM hr1
 have HC1 := aM hc1
 clear hr1 hc1
 have HB := aM (Below.refl w.heap.size w)
 have H : (if (l1.length : Int) > 1048576 then (some true) else ((laws_szDevice.f k l0_0 l0_1 1048576).bind fun t205 => (if t205 < 0 then (some true) else ((laws_toDevice.f k l0_0 l0_1).bind fun bt206 => ((laws_toBoolS.f k l1).bind fun t212 => ((spec_CrashDevice.f k bt206.1 bt206.2 t212).bind fun bt215 => ((laws_toDevice.f k l0_0 l0_1).bind fun bt223 => ((laws_toBoolS.f k l1).bind fun t230 => ((impl_CrashDevice.f bt223.1 bt223.2 t230).bind fun bt233 => ((laws_eqDevice.f k bt233.1 bt233.2.1 bt215.1 bt215.2.1).bind fun t241 => (if t241 = true then (laws_FnExactCrashDevice.j0 k l1 bt215.2.2 t230 bt233.2.2 (bt233.2.2 != bt215.2.2) l0_0 l0_1 bt215.1 bt215.2.1 bt223.1 bt223.2 bt233.1 bt233.2.1) else (laws_FnExactCrashDevice.j0 k l1 bt215.2.2 t230 bt233.2.2 true l0_0 l0_1 bt215.1 bt215.2.1 bt223.1 bt223.2 bt233.1 bt233.2.1)))))))))))) = some r := h
 clear h
 by_cases c3 : (l1.length : Int) > 1048576
 ·rw [if_pos c3] at H
  have c3b0 : decide (1048576 < (l1.length : Int)) = true := decide_eq_true c3
  have c3b1 : decide (1048576 < l1.length) = true := decide_eq_true (by omega)
  clear c3
  obtain rfl := Option.some.inj H
  go_enter Try.func8, Try.ntmps8
  go_wp2_with (first | ((with_reducible refine gate_dst (N := 2) rfl ?_); refine box_event ?hg (N := 2) ?hd (cs := #[.slice A0_0 l0_0.length c0_0, .slice A0_1 l0_1.length c0_1]) (t := 25) ?hr ?_; (case hd => rfl); (case hg => rfl); (case hr => first | (go_simp; done) | (go_simp; rfl)); intro gb204 hg w4 hbox hb; have n0_ := aM (zT (by repeat (first | (with_reducible first | exact HB.out | apply zA | apply zN | apply zD) | exact HB.out)) hb); have n1_ := aM (hbox); have n2_ := aM ((by rw [hg]; exact (zZ (by repeat (first | (with_reducible first | exact HB.out | apply zA | apply zN | apply zD) | exact HB.out))) : w.heap.size ≤ gb204)); have n3_ := aM ((by rw [hg]; exact (zZ (by repeat (first | (with_reducible first | exact HB.out | apply zA | apply zN | apply zD) | exact HB.out))) : w.heap.size ≤ gb204)); clear HB; have HB := n0_; have BK204 := n1_; have GW204 := n2_; have GE204 := n3_; clear n0_ n1_ n2_ n3_; clear hb hbox hg))
  go_ret
  exact ⟨by first | rfl | (simp [errW_none, errW_some] <;> rfl) | (simp [*, errW_none, errW_some] <;> rfl), by repeat (first | (with_reducible first | exact HB.out | apply zA | apply zN | apply zD | refine zS ?_ GE204.out) | exact HB.out)⟩
 ·rw [if_neg c3] at H
  have c3b0 : decide (1048576 < (l1.length : Int)) = false := decide_eq_false c3
  have c3b1 : decide (1048576 < l1.length) = false := decide_eq_false (by omega)
  clear c3
  replace H := Option.bind_eq_some_iff.mp H
  obtain ⟨t205, A50, H⟩ := H
  replace H : (if t205 < 0 then (some true) else ((laws_toDevice.f k l0_0 l0_1).bind fun bt206 => ((laws_toBoolS.f k l1).bind fun t212 => ((spec_CrashDevice.f k bt206.1 bt206.2 t212).bind fun bt215 => ((laws_toDevice.f k l0_0 l0_1).bind fun bt223 => ((laws_toBoolS.f k l1).bind fun t230 => ((impl_CrashDevice.f bt223.1 bt223.2 t230).bind fun bt233 => ((laws_eqDevice.f k bt233.1 bt233.2.1 bt215.1 bt215.2.1).bind fun t241 => (if t241 = true then (laws_FnExactCrashDevice.j0 k l1 bt215.2.2 t230 bt233.2.2 (bt233.2.2 != bt215.2.2) l0_0 l0_1 bt215.1 bt215.2.1 bt223.1 bt223.2 bt233.1 bt233.2.1) else (laws_FnExactCrashDevice.j0 k l1 bt215.2.2 t230 bt233.2.2 true l0_0 l0_1 bt215.1 bt215.2.1 bt223.1 bt223.2 bt233.1 bt233.2.1)))))))))) = some r := H
  have A5 := aM A50
  clear A50
  by_cases c6 : t205 < 0
  ·rw [if_pos c6] at H
   have c6b0 : decide (t205 < 0) = true := decide_eq_true c6
   clear c6
   obtain rfl := Option.some.inj H
   go_enter Try.func8, Try.ntmps8
   go_wp2_with (first | ((with_reducible refine gate_dst (N := 2) rfl ?_); refine box_event ?hg (N := 2) ?hd (cs := #[.slice A0_0 l0_0.length c0_0, .slice A0_1 l0_1.length c0_1]) (t := 25) ?hr ?_; (case hd => rfl); (case hg => rfl); (case hr => first | (go_simp; done) | (go_simp; rfl)); intro gb204 hg w7 hbox hb; have n0_ := aM (zT (by repeat (first | (with_reducible first | exact HB.out | apply zA | apply zN | apply zD) | exact HB.out)) hb); have n1_ := aM (hbox); have n2_ := aM ((by rw [hg]; exact (zZ (by repeat (first | (with_reducible first | exact HB.out | apply zA | apply zN | apply zD) | exact HB.out))) : w.heap.size ≤ gb204)); have n3_ := aM ((by rw [hg]; exact (zZ (by repeat (first | (with_reducible first | exact HB.out | apply zA | apply zN | apply zD) | exact HB.out))) : w.heap.size ≤ gb204)); clear HB; have HB := n0_; have BK204 := n1_; have GW204 := n2_; have GE204 := n3_; clear n0_ n1_ n2_ n3_; clear hb hbox hg; have hcz8_0 : w7.cell? ⟨gb204, 0, none⟩ = some (.slice A0_0 l0_0.length c0_0) := (yC BK204.out 0).trans rfl; have hcz8_1 : w7.cell? ⟨gb204, 1, none⟩ = some (.slice A0_1 l0_1.length c0_1) := (yC BK204.out 1).trans rfl; have hfz8_0 := yZ BK204.out 0; have hfz8_1 := yZ BK204.out 1) | ((with_reducible refine gate_callee (f := 13) rfl ?_); refine goesL_ (some 22) rfl rfl Try.func13 (by kernel_rfl) rfl #[.agg #[.slice A0_0 l0_0.length c0_0, .slice A0_1 l0_1.length c0_1], .int .i64 1048576] rfl (by (try simp only [List.map_toArray, List.map_cons, List.map_nil]); first | done | rfl | (simp only [List.length_drop, List.length_take]; rfl)) ?_; (with_reducible refine (laws_szDevice.calls k _ _ l0_0 _ _ l0_1 1048576 t205 _ ?side1 ?side2 ?side3 ?side4 A5.out).mono ?_); (case side1 => repeat (first | exact (cB HR0_0.out HB.out) | (with_reducible refine cA ?_ _) | (with_reducible refine cN ?_ _) | (with_reducible refine cD ?_))); (case side2 => exact HC0_0.out); (case side3 => repeat (first | exact (cB HR0_1.out HB.out) | (with_reducible refine cA ?_ _) | (with_reducible refine cN ?_ _) | (with_reducible refine cD ?_))); (case side4 => exact HC0_1.out); rintro e w9 ⟨rfl, hb⟩; refine ⟨_, rfl, ?_⟩; have n0_ := aM (yB (g := gb204) (o := .cells #[.slice A0_0 l0_0.length c0_0, .slice A0_1 l0_1.length c0_1] 25 (0, 0)) (by (with_reducible repeat (first | refine yN ?_ _ | refine yD ?_ | refine yA ?_ _)); exact BK204.out) hb); have n1_ := aM (zT (by repeat (first | (with_reducible first | exact HB.out | apply zA | apply zN | apply zD | refine zS ?_ GE204.out) | exact HB.out)) hb); clear BK204; clear HB; have BK204 := n0_; have HB := n1_; clear n0_ n1_; (try clear hb); (try clear hb2); (try clear hk); (try clear hi)))
   go_ret
   exact ⟨by first | rfl | (simp [errW_none, errW_some] <;> rfl) | (simp [*, errW_none, errW_some] <;> rfl), by repeat (first | (with_reducible first | exact HB.out | apply zA | apply zN | apply zD | refine zS ?_ GE204.out) | exact HB.out)⟩
  ·rw [if_neg c6] at H
   have c6b0 : decide (t205 < 0) = false := decide_eq_false c6
   clear c6
   replace H := Option.bind_eq_some_iff.mp H
   obtain ⟨⟨t206, t209⟩, A100, H⟩ := H
   replace H : ((laws_toBoolS.f k l1).bind fun t212 => ((spec_CrashDevice.f k t206 t209 t212).bind fun bt215 => ((laws_toDevice.f k l0_0 l0_1).bind fun bt223 => ((laws_toBoolS.f k l1).bind fun t230 => ((impl_CrashDevice.f bt223.1 bt223.2 t230).bind fun bt233 => ((laws_eqDevice.f k bt233.1 bt233.2.1 bt215.1 bt215.2.1).bind fun t241 => (if t241 = true then (laws_FnExactCrashDevice.j0 k l1 bt215.2.2 t230 bt233.2.2 (bt233.2.2 != bt215.2.2) l0_0 l0_1 bt215.1 bt215.2.1 bt223.1 bt223.2 bt233.1 bt233.2.1) else (laws_FnExactCrashDevice.j0 k l1 bt215.2.2 t230 bt233.2.2 true l0_0 l0_1 bt215.1 bt215.2.1 bt223.1 bt223.2 bt233.1 bt233.2.1)))))))) = some r := H
   have A10 := aM A100
   clear A100
   replace H := Option.bind_eq_some_iff.mp H
   obtain ⟨t212, A110, H⟩ := H
   replace H : ((spec_CrashDevice.f k t206 t209 t212).bind fun bt215 => ((laws_toDevice.f k l0_0 l0_1).bind fun bt223 => ((laws_toBoolS.f k l1).bind fun t230 => ((impl_CrashDevice.f bt223.1 bt223.2 t230).bind fun bt233 => ((laws_eqDevice.f k bt233.1 bt233.2.1 bt215.1 bt215.2.1).bind fun t241 => (if t241 = true then (laws_FnExactCrashDevice.j0 k l1 bt215.2.2 t230 bt233.2.2 (bt233.2.2 != bt215.2.2) l0_0 l0_1 bt215.1 bt215.2.1 bt223.1 bt223.2 bt233.1 bt233.2.1) else (laws_FnExactCrashDevice.j0 k l1 bt215.2.2 t230 bt233.2.2 true l0_0 l0_1 bt215.1 bt215.2.1 bt223.1 bt223.2 bt233.1 bt233.2.1))))))) = some r := H
   have A11 := aM A110
   clear A110
   replace H := Option.bind_eq_some_iff.mp H
   obtain ⟨⟨t215, t218, t221⟩, A120, H⟩ := H
   replace H : ((laws_toDevice.f k l0_0 l0_1).bind fun bt223 => ((laws_toBoolS.f k l1).bind fun t230 => ((impl_CrashDevice.f bt223.1 bt223.2 t230).bind fun bt233 => ((laws_eqDevice.f k bt233.1 bt233.2.1 t215 t218).bind fun t241 => (if t241 = true then (laws_FnExactCrashDevice.j0 k l1 t221 t230 bt233.2.2 (bt233.2.2 != t221) l0_0 l0_1 t215 t218 bt223.1 bt223.2 bt233.1 bt233.2.1) else (laws_FnExactCrashDevice.j0 k l1 t221 t230 bt233.2.2 true l0_0 l0_1 t215 t218 bt223.1 bt223.2 bt233.1 bt233.2.1)))))) = some r := H
   have A12 := aM A120
   clear A120
   replace H := Option.bind_eq_some_iff.mp H
   obtain ⟨⟨t223, t226⟩, A130, H⟩ := H
   replace H : ((laws_toBoolS.f k l1).bind fun t230 => ((impl_CrashDevice.f t223 t226 t230).bind fun bt233 => ((laws_eqDevice.f k bt233.1 bt233.2.1 t215 t218).bind fun t241 => (if t241 = true then (laws_FnExactCrashDevice.j0 k l1 t221 t230 bt233.2.2 (bt233.2.2 != t221) l0_0 l0_1 t215 t218 t223 t226 bt233.1 bt233.2.1) else (laws_FnExactCrashDevice.j0 k l1 t221 t230 bt233.2.2 true l0_0 l0_1 t215 t218 t223 t226 bt233.1 bt233.2.1))))) = some r := H
   have A13 := aM A130
   clear A130
   replace H := Option.bind_eq_some_iff.mp H
   obtain ⟨t230, A140, H⟩ := H
   replace H : ((impl_CrashDevice.f t223 t226 t230).bind fun bt233 => ((laws_eqDevice.f k bt233.1 bt233.2.1 t215 t218).bind fun t241 => (if t241 = true then (laws_FnExactCrashDevice.j0 k l1 t221 t230 bt233.2.2 (bt233.2.2 != t221) l0_0 l0_1 t215 t218 t223 t226 bt233.1 bt233.2.1) else (laws_FnExactCrashDevice.j0 k l1 t221 t230 bt233.2.2 true l0_0 l0_1 t215 t218 t223 t226 bt233.1 bt233.2.1)))) = some r := H
   have A14 := aM A140
   clear A140
   replace H := Option.bind_eq_some_iff.mp H
   obtain ⟨⟨t233, t236, t239⟩, A150, H⟩ := H
   replace H : ((laws_eqDevice.f k t233 t236 t215 t218).bind fun t241 => (if t241 = true then (laws_FnExactCrashDevice.j0 k l1 t221 t230 t239 (t239 != t221) l0_0 l0_1 t215 t218 t223 t226 t233 t236) else (laws_FnExactCrashDevice.j0 k l1 t221 t230 t239 true l0_0 l0_1 t215 t218 t223 t226 t233 t236))) = some r := H
   have A15 := aM A150
   clear A150
   have HC16 := aM H
   clear H
   go_enter Try.func8, Try.ntmps8
   go_upto_region 11 with (first | ((with_reducible refine gate_dst (N := 2) rfl ?_); refine box_event ?hg (N := 2) ?hd (cs := #[.slice A0_0 l0_0.length c0_0, .slice A0_1 l0_1.length c0_1]) (t := 25) ?hr ?_; (case hd => rfl); (case hg => rfl); (case hr => first | (go_simp; done) | (go_simp; rfl)); intro gb204 hg w17 hbox hb; have n0_ := aM (zT (by repeat (first | (with_reducible first | exact HB.out | apply zA | apply zN | apply zD) | exact HB.out)) hb); have n1_ := aM (hbox); have n2_ := aM ((by rw [hg]; exact (zZ (by repeat (first | (with_reducible first | exact HB.out | apply zA | apply zN | apply zD) | exact HB.out))) : w.heap.size ≤ gb204)); have n3_ := aM ((by rw [hg]; exact (zZ (by repeat (first | (with_reducible first | exact HB.out | apply zA | apply zN | apply zD) | exact HB.out))) : w.heap.size ≤ gb204)); clear HB; have HB := n0_; have BK204 := n1_; have GW204 := n2_; have GE204 := n3_; clear n0_ n1_ n2_ n3_; clear hb hbox hg; have hcz18_0 : w17.cell? ⟨gb204, 0, none⟩ = some (.slice A0_0 l0_0.length c0_0) := (yC BK204.out 0).trans rfl; have hcz18_1 : w17.cell? ⟨gb204, 1, none⟩ = some (.slice A0_1 l0_1.length c0_1) := (yC BK204.out 1).trans rfl; have hfz18_0 := yZ BK204.out 0; have hfz18_1 := yZ BK204.out 1) | ((with_reducible refine gate_callee (f := 13) rfl ?_); refine goesL_ (some 22) rfl rfl Try.func13 (by kernel_rfl) rfl #[.agg #[.slice A0_0 l0_0.length c0_0, .slice A0_1 l0_1.length c0_1], .int .i64 1048576] rfl (by (try simp only [List.map_toArray, List.map_cons, List.map_nil]); first | done | rfl | (simp only [List.length_drop, List.length_take]; rfl)) ?_; (with_reducible refine (laws_szDevice.calls k _ _ l0_0 _ _ l0_1 1048576 t205 _ ?side1 ?side2 ?side3 ?side4 A5.out).mono ?_); (case side1 => repeat (first | exact (cB HR0_0.out HB.out) | (with_reducible refine cA ?_ _) | (with_reducible refine cN ?_ _) | (with_reducible refine cD ?_))); (case side2 => exact HC0_0.out); (case side3 => repeat (first | exact (cB HR0_1.out HB.out) | (with_reducible refine cA ?_ _) | (with_reducible refine cN ?_ _) | (with_reducible refine cD ?_))); (case side4 => exact HC0_1.out); rintro e w19 ⟨rfl, hb⟩; refine ⟨_, rfl, ?_⟩; have n0_ := aM (yB (g := gb204) (o := .cells #[.slice A0_0 l0_0.length c0_0, .slice A0_1 l0_1.length c0_1] 25 (0, 0)) (by (with_reducible repeat (first | refine yN ?_ _ | refine yD ?_ | refine yA ?_ _)); exact BK204.out) hb); have n1_ := aM (zT (by repeat (first | (with_reducible first | exact HB.out | apply zA | apply zN | apply zD | refine zS ?_ GE204.out) | exact HB.out)) hb); clear BK204; clear HB; have BK204 := n0_; have HB := n1_; clear n0_ n1_; (try clear hb); (try clear hb2); (try clear hk); (try clear hi); have hcz20_0 : w19.cell? ⟨gb204, 0, none⟩ = some (.slice A0_0 l0_0.length c0_0) := (yC BK204.out 0).trans rfl; have hcz20_1 : w19.cell? ⟨gb204, 1, none⟩ = some (.slice A0_1 l0_1.length c0_1) := (yC BK204.out 1).trans rfl; have hfz20_0 := yZ BK204.out 0; have hfz20_1 := yZ BK204.out 1) | ((with_reducible refine gate_callee (f := 15) rfl ?_); refine goesL_ (some 27) rfl rfl Try.func15 (by kernel_rfl) rfl #[.agg #[.slice A0_0 l0_0.length c0_0, .slice A0_1 l0_1.length c0_1]] rfl (by (try simp only [List.map_toArray, List.map_cons, List.map_nil]); first | done | rfl | (simp only [List.length_drop, List.length_take]; rfl)) ?_; (with_reducible refine (laws_toDevice.calls k _ _ l0_0 _ _ l0_1 t206 t209 _ ?side1 ?side2 ?side3 ?side4 A10.out).mono ?_); (case side1 => repeat (first | exact (cB HR0_0.out HB.out) | (with_reducible refine cA ?_ _) | (with_reducible refine cN ?_ _) | (with_reducible refine cD ?_))); (case side2 => exact HC0_0.out); (case side3 => repeat (first | exact (cB HR0_1.out HB.out) | (with_reducible refine cA ?_ _) | (with_reducible refine cN ?_ _) | (with_reducible refine cD ?_))); (case side4 => exact HC0_1.out); rintro e w21 ⟨v207, v210, rfl, ho0, ho1, hb⟩; refine ⟨_, rfl, ?_⟩; have n0_ := aM (xL ho0 (zZ (by repeat (first | (with_reducible first | exact HB.out | apply zA | apply zN | apply zD | refine zS ?_ GE204.out) | exact HB.out)))); have n1_ := aM (xL ho1 (zZ (by repeat (first | (with_reducible first | exact HB.out | apply zA | apply zN | apply zD | refine zS ?_ GE204.out) | exact HB.out)))); have n2_ := aM (yB (g := gb204) (o := .cells #[.slice A0_0 l0_0.length c0_0, .slice A0_1 l0_1.length c0_1] 25 (0, 0)) (by (with_reducible repeat (first | refine yN ?_ _ | refine yD ?_ | refine yA ?_ _)); exact BK204.out) hb); have n3_ := aM (zT (by repeat (first | (with_reducible first | exact HB.out | apply zA | apply zN | apply zD | refine zS ?_ GE204.out) | exact HB.out)) hb); clear BK204; clear HB; have HO208 := n0_; have HO211 := n1_; have BK204 := n2_; have HB := n3_; clear n0_ n1_ n2_ n3_; (try clear hb); (try clear hb2); (try clear hk); (try clear hi); (try clear ho0); (try clear ho1)) | ((with_reducible refine gate_callee (f := 31) rfl ?_); refine goesL_ (some 29) rfl rfl Try.func31 (by kernel_rfl) rfl #[.slice A1 l1.length c1] rfl (by (try simp only [List.map_toArray, List.map_cons, List.map_nil]); first | done | rfl | (simp only [List.length_drop, List.length_take]; rfl)) ?_; (with_reducible refine (laws_toBoolS.calls k _ _ l1 t212 _ ?side1 ?side2 A11.out).mono ?_); (case side1 => repeat (first | exact (cB HR1.out HB.out) | (with_reducible refine cA ?_ _) | (with_reducible refine cN ?_ _) | (with_reducible refine cD ?_))); (case side2 => exact HC1.out); rintro e w22 ⟨v213, rfl, ho0, hb⟩; refine ⟨_, rfl, ?_⟩; have n0_ := aM (xB (by (with_reducible repeat (first | apply xA | apply xN | apply xD)); exact HO208.out) hb); have n1_ := aM (xB (by (with_reducible repeat (first | apply xA | apply xN | apply xD)); exact HO211.out) hb); have n2_ := aM (xL ho0 (zZ (by repeat (first | (with_reducible first | exact HB.out | apply zA | apply zN | apply zD | refine zS ?_ GE204.out) | exact HB.out)))); have n3_ := aM (yB (g := gb204) (o := .cells #[.slice A0_0 l0_0.length c0_0, .slice A0_1 l0_1.length c0_1] 25 (0, 0)) (by (with_reducible repeat (first | refine yN ?_ _ | refine yD ?_ | refine yA ?_ _)); exact BK204.out) hb); have n4_ := aM (zT (by repeat (first | (with_reducible first | exact HB.out | apply zA | apply zN | apply zD | refine zS ?_ GE204.out) | exact HB.out)) hb); clear HO208; clear HO211; clear BK204; clear HB; have HO208 := n0_; have HO211 := n1_; have HO214 := n2_; have BK204 := n3_; have HB := n4_; clear n0_ n1_ n2_ n3_ n4_; (try clear hb); (try clear hb2); (try clear hk); (try clear hi); (try clear ho0); obtain ⟨Ao23, co23, eo23⟩ := Kd.R_slice HO208.out; subst eo23; obtain ⟨Ao24, co24, eo24⟩ := Kd.R_slice HO211.out; subst eo24; obtain ⟨Ao25, co25, eo25⟩ := Kd.R_slice HO214.out; subst eo25) | ((with_reducible refine gate_callee (f := 30) rfl ?_); refine goesL_ (some 30) rfl rfl Try.func30 (by kernel_rfl) rfl #[.agg #[.slice Ao23 t206.length co23, .slice Ao24 t209.length co24], .slice Ao25 t212.length co25] rfl (by (try simp only [List.map_toArray, List.map_cons, List.map_nil]); first | done | rfl | (simp only [List.length_drop, List.length_take]; rfl)) ?_; (with_reducible refine (spec_CrashDevice.calls k _ _ t206 _ _ t209 _ _ t212 t215 t218 t221 _ ?side1 ?side2 ?side3 ?side4 ?side5 ?side6 A12.out).mono ?_); (case side1 => repeat (first | exact (Kd.R_reads' HO208.out).2.2 | (with_reducible refine cA ?_ _) | (with_reducible refine cN ?_ _) | (with_reducible refine cD ?_))); (case side2 => exact (Kd.R_reads' HO208.out).2.1); (case side3 => repeat (first | exact (Kd.R_reads' HO211.out).2.2 | (with_reducible refine cA ?_ _) | (with_reducible refine cN ?_ _) | (with_reducible refine cD ?_))); (case side4 => exact (Kd.R_reads' HO211.out).2.1); (case side5 => repeat (first | exact (Kd.R_reads' HO214.out).2.2 | (with_reducible refine cA ?_ _) | (with_reducible refine cN ?_ _) | (with_reducible refine cD ?_))); (case side6 => exact (Kd.R_reads' HO214.out).2.1); rintro e w26 ⟨v216, v219, rfl, ho0, ho1, hb⟩; refine ⟨_, rfl, ?_⟩; have n0_ := aM (Kd.R_elder' (by (with_reducible repeat (first | apply xA | apply xN | apply xD)); exact HO208.out) (Kd.R_base ho0) hb); have n1_ := aM (Kd.R_elder' (by (with_reducible repeat (first | apply xA | apply xN | apply xD)); exact HO211.out) (Kd.R_base ho1) hb); have n2_ := aM (xB (by (with_reducible repeat (first | apply xA | apply xN | apply xD)); exact HO214.out) hb); have n3_ := aM (xL (Kd.R_new' ho0 (Kd.R_lt (by (with_reducible repeat (first | apply xA | apply xN | apply xD)); exact HO208.out))) (zZ (by repeat (first | (with_reducible first | exact HB.out | apply zA | apply zN | apply zD | refine zS ?_ GE204.out) | exact HB.out)))); have n4_ := aM (xL (Kd.R_new' ho1 (Kd.R_lt (by (with_reducible repeat (first | apply xA | apply xN | apply xD)); exact HO211.out))) (zZ (by repeat (first | (with_reducible first | exact HB.out | apply zA | apply zN | apply zD | refine zS ?_ GE204.out) | exact HB.out)))); have n5_ := aM (yB (g := gb204) (o := .cells #[.slice A0_0 l0_0.length c0_0, .slice A0_1 l0_1.length c0_1] 25 (0, 0)) (by (with_reducible repeat (first | refine yN ?_ _ | refine yD ?_ | refine yA ?_ _)); exact BK204.out) hb); have n6_ := aM (zT (by repeat (first | (with_reducible first | exact HB.out | apply zA | apply zN | apply zD | refine zS ?_ GE204.out) | exact HB.out)) hb); clear HO208; clear HO211; clear HO214; clear BK204; clear HB; have HO208 := n0_; have HO211 := n1_; have HO214 := n2_; have HO217 := n3_; have HO220 := n4_; have BK204 := n5_; have HB := n6_; clear n0_ n1_ n2_ n3_ n4_ n5_ n6_; (try clear hb); (try clear hb2); (try clear hk); (try clear hi); (try clear ho0); (try clear ho1)) | ((with_reducible refine gate_dst (N := 6) rfl ?_); refine box_event ?hg (N := 6) ?hd (cs := #[.slice none 0 0, .slice none 0 0]) (t := 30) ?hr ?_; (case hd => rfl); (case hg => rfl); (case hr => first | (go_simp; done) | (go_simp; rfl)); intro gb222 hg w27 hbox hb; have n0_ := aM (xB (by (with_reducible repeat (first | apply xA | apply xN | apply xD)); exact HO208.out) hb); have n1_ := aM (xB (by (with_reducible repeat (first | apply xA | apply xN | apply xD)); exact HO211.out) hb); have n2_ := aM (xB (by (with_reducible repeat (first | apply xA | apply xN | apply xD)); exact HO214.out) hb); have n3_ := aM (xB (by (with_reducible repeat (first | apply xA | apply xN | apply xD)); exact HO217.out) hb); have n4_ := aM (xB (by (with_reducible repeat (first | apply xA | apply xN | apply xD)); exact HO220.out) hb); have n5_ := aM (yB (g := gb204) (o := .cells #[.slice A0_0 l0_0.length c0_0, .slice A0_1 l0_1.length c0_1] 25 (0, 0)) (by (with_reducible repeat (first | refine yN ?_ _ | refine yD ?_ | refine yA ?_ _)); exact BK204.out) hb); have n6_ := aM (zT (by repeat (first | (with_reducible first | exact HB.out | apply zA | apply zN | apply zD | refine zS ?_ GE204.out) | exact HB.out)) hb); have n7_ := aM (hbox); have n8_ := aM ((by rw [hg]; exact (zZ (by repeat (first | (with_reducible first | exact HB.out | apply zA | apply zN | apply zD | refine zS ?_ GE204.out) | exact HB.out))) : w.heap.size ≤ gb222)); have n9_ := aM ((by rw [hg]; exact (zZ (by repeat (first | (with_reducible first | exact HB.out | apply zA | apply zN | apply zD | refine zS ?_ GE204.out) | exact HB.out))) : w.heap.size ≤ gb222)); have n10_ := aM ((by rw [hg]; exact Nat.ne_of_lt (blk_lt (g := gb204) (o := .cells #[.slice A0_0 l0_0.length c0_0, .slice A0_1 l0_1.length c0_1] 25 (0, 0)) (by (with_reducible repeat (first | refine yN ?_ _ | refine yD ?_ | refine yA ?_ _)); exact BK204.out)) : gb204 ≠ gb222)); have n11_ := aM ((by rw [hg]; exact Nat.ne_of_gt (blk_lt (g := gb204) (o := .cells #[.slice A0_0 l0_0.length c0_0, .slice A0_1 l0_1.length c0_1] 25 (0, 0)) (by (with_reducible repeat (first | refine yN ?_ _ | refine yD ?_ | refine yA ?_ _)); exact BK204.out)) : gb222 ≠ gb204)); clear HO208; clear HO211; clear HO214; clear HO217; clear HO220; clear BK204; clear HB; have HO208 := n0_; have HO211 := n1_; have HO214 := n2_; have HO217 := n3_; have HO220 := n4_; have BK204 := n5_; have HB := n6_; have BK222 := n7_; have GW222 := n8_; have GE222 := n9_; have NB204_222 := n10_; have NB222_204 := n11_; clear n0_ n1_ n2_ n3_ n4_ n5_ n6_ n7_ n8_ n9_ n10_ n11_; clear hb hbox hg; obtain ⟨Ao28, co28, eo28⟩ := Kd.R_slice HO217.out; subst eo28; have hnb29 := NB222_204.out; have hnc29 := NB204_222.out; have hcz30_0 : w27.cell? ⟨gb222, 0, none⟩ = some (.slice none 0 0) := (yC BK222.out 0).trans rfl; have hcz30_1 : w27.cell? ⟨gb222, 1, none⟩ = some (.slice none 0 0) := (yC BK222.out 1).trans rfl; have hfz30_0 := yZ BK222.out 0; have hfz30_1 := yZ BK222.out 1; obtain ⟨Ao31, co31, eo31⟩ := Kd.R_slice HO220.out; subst eo31; have hcz32_0 : w27.cell? ⟨gb204, 0, none⟩ = some (.slice A0_0 l0_0.length c0_0) := (yC BK204.out 0).trans rfl; have hcz32_1 : w27.cell? ⟨gb204, 1, none⟩ = some (.slice A0_1 l0_1.length c0_1) := (yC BK204.out 1).trans rfl; have hfz32_0 := yZ BK204.out 0; have hfz32_1 := yZ BK204.out 1) | ((with_reducible refine gate_callee (f := 15) rfl ?_); refine goesL_ (some 34) rfl rfl Try.func15 (by kernel_rfl) rfl #[.agg #[.slice A0_0 l0_0.length c0_0, .slice A0_1 l0_1.length c0_1]] rfl (by (try simp only [List.map_toArray, List.map_cons, List.map_nil]); first | done | rfl | (simp only [List.length_drop, List.length_take]; rfl)) ?_; (with_reducible refine (laws_toDevice.calls k _ _ l0_0 _ _ l0_1 t223 t226 _ ?side1 ?side2 ?side3 ?side4 A13.out).mono ?_); (case side1 => exact cB HR0_0.out (by repeat (first | (with_reducible first | exact HB.out | apply zA | apply zN | apply zD | refine zS ?_ GE204.out | refine zS ?_ GE222.out) | exact HB.out))); (case side2 => exact HC0_0.out); (case side3 => exact cB HR0_1.out (by repeat (first | (with_reducible first | exact HB.out | apply zA | apply zN | apply zD | refine zS ?_ GE204.out | refine zS ?_ GE222.out) | exact HB.out))); (case side4 => exact HC0_1.out); rintro e w33 ⟨v224, v227, rfl, ho0, ho1, hb⟩; refine ⟨_, rfl, ?_⟩; have n0_ := aM (Kd.R_elder' (by (with_reducible repeat (first | apply xA | apply xN | apply xD)); exact (xM (xF (p := ⟨gb222, 1, none⟩) (xF (p := ⟨gb222, 0, none⟩) (xT HO208.out BK222.out (by decide)) (fun _ hk => hk.2) (.slice Ao28 t215.length co28)) (fun _ hk => hk.2) (.slice Ao31 t218.length co31)) (fun _ h_ => h_.1))) (Kd.R_base ho0) hb); have n1_ := aM (Kd.R_elder' (by (with_reducible repeat (first | apply xA | apply xN | apply xD)); exact (xM (xF (p := ⟨gb222, 1, none⟩) (xF (p := ⟨gb222, 0, none⟩) (xT HO211.out BK222.out (by decide)) (fun _ hk => hk.2) (.slice Ao28 t215.length co28)) (fun _ hk => hk.2) (.slice Ao31 t218.length co31)) (fun _ h_ => h_.1))) (Kd.R_base ho1) hb); have n2_ := aM (xB (by (with_reducible repeat (first | apply xA | apply xN | apply xD)); exact (xM (xF (p := ⟨gb222, 1, none⟩) (xF (p := ⟨gb222, 0, none⟩) (xT HO214.out BK222.out (by decide)) (fun _ hk => hk.2) (.slice Ao28 t215.length co28)) (fun _ hk => hk.2) (.slice Ao31 t218.length co31)) (fun _ h_ => h_.1))) hb); have n3_ := aM (Kd.R_elder' (by (with_reducible repeat (first | apply xA | apply xN | apply xD)); exact (xM (xF (p := ⟨gb222, 1, none⟩) (xF (p := ⟨gb222, 0, none⟩) (xT HO217.out BK222.out (by decide)) (fun _ hk => hk.2) (.slice Ao28 t215.length co28)) (fun _ hk => hk.2) (.slice Ao31 t218.length co31)) (fun _ h_ => h_.1))) (Kd.R_base ho0) hb); have n4_ := aM (Kd.R_elder' (by (with_reducible repeat (first | apply xA | apply xN | apply xD)); exact (xM (xF (p := ⟨gb222, 1, none⟩) (xF (p := ⟨gb222, 0, none⟩) (xT HO220.out BK222.out (by decide)) (fun _ hk => hk.2) (.slice Ao28 t215.length co28)) (fun _ hk => hk.2) (.slice Ao31 t218.length co31)) (fun _ h_ => h_.1))) (Kd.R_base ho1) hb); have n5_ := aM (xL (Kd.R_new' (Kd.R_new' ho0 (Kd.R_lt (by (with_reducible repeat (first | apply xA | apply xN | apply xD)); exact (xM (xF (p := ⟨gb222, 1, none⟩) (xF (p := ⟨gb222, 0, none⟩) (xT HO208.out BK222.out (by decide)) (fun _ hk => hk.2) (.slice Ao28 t215.length co28)) (fun _ hk => hk.2) (.slice Ao31 t218.length co31)) (fun _ h_ => h_.1))))) (Kd.R_lt (by (with_reducible repeat (first | apply xA | apply xN | apply xD)); exact (xM (xF (p := ⟨gb222, 1, none⟩) (xF (p := ⟨gb222, 0, none⟩) (xT HO217.out BK222.out (by decide)) (fun _ hk => hk.2) (.slice Ao28 t215.length co28)) (fun _ hk => hk.2) (.slice Ao31 t218.length co31)) (fun _ h_ => h_.1))))) (zZ (by repeat (first | (with_reducible first | exact HB.out | apply zA | apply zN | apply zD | refine zS ?_ GE204.out | refine zS ?_ GE222.out) | exact HB.out)))); have n6_ := aM (xL (Kd.R_new' (Kd.R_new' ho1 (Kd.R_lt (by (with_reducible repeat (first | apply xA | apply xN | apply xD)); exact (xM (xF (p := ⟨gb222, 1, none⟩) (xF (p := ⟨gb222, 0, none⟩) (xT HO211.out BK222.out (by decide)) (fun _ hk => hk.2) (.slice Ao28 t215.length co28)) (fun _ hk => hk.2) (.slice Ao31 t218.length co31)) (fun _ h_ => h_.1))))) (Kd.R_lt (by (with_reducible repeat (first | apply xA | apply xN | apply xD)); exact (xM (xF (p := ⟨gb222, 1, none⟩) (xF (p := ⟨gb222, 0, none⟩) (xT HO220.out BK222.out (by decide)) (fun _ hk => hk.2) (.slice Ao28 t215.length co28)) (fun _ hk => hk.2) (.slice Ao31 t218.length co31)) (fun _ h_ => h_.1))))) (zZ (by repeat (first | (with_reducible first | exact HB.out | apply zA | apply zN | apply zD | refine zS ?_ GE204.out | refine zS ?_ GE222.out) | exact HB.out)))); have n7_ := aM (yB (g := gb204) (o := .cells #[.slice A0_0 l0_0.length c0_0, .slice A0_1 l0_1.length c0_1] 25 (0, 0)) (by (with_reducible repeat (first | refine yN ?_ _ | refine yD ?_ | refine yA ?_ _)); refine yF ?_ NB204_222.out _; (with_reducible repeat (first | refine yN ?_ _ | refine yD ?_ | refine yA ?_ _)); refine yF ?_ NB204_222.out _; (with_reducible repeat (first | refine yN ?_ _ | refine yD ?_ | refine yA ?_ _)); exact BK204.out) hb); have n8_ := aM (yB (g := gb222) (o := .cells #[.slice Ao28 t215.length co28, .slice Ao31 t218.length co31] 30 (0, 0)) (by (with_reducible repeat (first | refine yN ?_ _ | refine yD ?_ | refine yA ?_ _)); refine yP (cs := #[.slice Ao28 t215.length co28, .slice none 0 0]) ?_ 1 _ rfl; (with_reducible repeat (first | refine yN ?_ _ | refine yD ?_ | refine yA ?_ _)); refine yP (cs := #[.slice none 0 0, .slice none 0 0]) ?_ 0 _ rfl; (with_reducible repeat (first | refine yN ?_ _ | refine yD ?_ | refine yA ?_ _)); exact BK222.out) hb); have n9_ := aM (zT (by repeat (first | (with_reducible first | exact HB.out | apply zA | apply zN | apply zD | refine zS ?_ GE204.out | refine zS ?_ GE222.out) | exact HB.out)) hb); clear HO208; clear HO211; clear HO214; clear HO217; clear HO220; clear BK204; clear BK222; clear HB; have HO208 := n0_; have HO211 := n1_; have HO214 := n2_; have HO217 := n3_; have HO220 := n4_; have HO225 := n5_; have HO228 := n6_; have BK204 := n7_; have BK222 := n8_; have HB := n9_; clear n0_ n1_ n2_ n3_ n4_ n5_ n6_ n7_ n8_ n9_; (try clear hb); (try clear hb2); (try clear hk); (try clear hi); (try clear ho0); (try clear ho1)) | ((with_reducible refine gate_dst (N := 8) rfl ?_); refine box_event ?hg (N := 8) ?hd (cs := #[.slice none 0 0, .slice none 0 0]) (t := 30) ?hr ?_; (case hd => rfl); (case hg => rfl); (case hr => first | (go_simp; done) | (go_simp; rfl)); intro gb229 hg w34 hbox hb; have n0_ := aM (xB (by (with_reducible repeat (first | apply xA | apply xN | apply xD)); exact HO208.out) hb); have n1_ := aM (xB (by (with_reducible repeat (first | apply xA | apply xN | apply xD)); exact HO211.out) hb); have n2_ := aM (xB (by (with_reducible repeat (first | apply xA | apply xN | apply xD)); exact HO214.out) hb); have n3_ := aM (xB (by (with_reducible repeat (first | apply xA | apply xN | apply xD)); exact HO217.out) hb); have n4_ := aM (xB (by (with_reducible repeat (first | apply xA | apply xN | apply xD)); exact HO220.out) hb); have n5_ := aM (xB (by (with_reducible repeat (first | apply xA | apply xN | apply xD)); exact HO225.out) hb); have n6_ := aM (xB (by (with_reducible repeat (first | apply xA | apply xN | apply xD)); exact HO228.out) hb); have n7_ := aM (yB (g := gb204) (o := .cells #[.slice A0_0 l0_0.length c0_0, .slice A0_1 l0_1.length c0_1] 25 (0, 0)) (by (with_reducible repeat (first | refine yN ?_ _ | refine yD ?_ | refine yA ?_ _)); exact BK204.out) hb); have n8_ := aM (yB (g := gb222) (o := .cells #[.slice Ao28 t215.length co28, .slice Ao31 t218.length co31] 30 (0, 0)) (by (with_reducible repeat (first | refine yN ?_ _ | refine yD ?_ | refine yA ?_ _)); exact BK222.out) hb); have n9_ := aM (zT (by repeat (first | (with_reducible first | exact HB.out | apply zA | apply zN | apply zD | refine zS ?_ GE204.out | refine zS ?_ GE222.out) | exact HB.out)) hb); have n10_ := aM (hbox); have n11_ := aM ((by rw [hg]; exact (zZ (by repeat (first | (with_reducible first | exact HB.out | apply zA | apply zN | apply zD | refine zS ?_ GE204.out | refine zS ?_ GE222.out) | exact HB.out))) : w.heap.size ≤ gb229)); have n12_ := aM ((by rw [hg]; exact (zZ (by repeat (first | (with_reducible first | exact HB.out | apply zA | apply zN | apply zD | refine zS ?_ GE204.out | refine zS ?_ GE222.out) | exact HB.out))) : w.heap.size ≤ gb229)); have n13_ := aM ((by rw [hg]; exact Nat.ne_of_lt (blk_lt (g := gb204) (o := .cells #[.slice A0_0 l0_0.length c0_0, .slice A0_1 l0_1.length c0_1] 25 (0, 0)) (by (with_reducible repeat (first | refine yN ?_ _ | refine yD ?_ | refine yA ?_ _)); exact BK204.out)) : gb204 ≠ gb229)); have n14_ := aM ((by rw [hg]; exact Nat.ne_of_gt (blk_lt (g := gb204) (o := .cells #[.slice A0_0 l0_0.length c0_0, .slice A0_1 l0_1.length c0_1] 25 (0, 0)) (by (with_reducible repeat (first | refine yN ?_ _ | refine yD ?_ | refine yA ?_ _)); exact BK204.out)) : gb229 ≠ gb204)); have n15_ := aM ((by rw [hg]; exact Nat.ne_of_lt (blk_lt (g := gb222) (o := .cells #[.slice Ao28 t215.length co28, .slice Ao31 t218.length co31] 30 (0, 0)) (by (with_reducible repeat (first | refine yN ?_ _ | refine yD ?_ | refine yA ?_ _)); exact BK222.out)) : gb222 ≠ gb229)); have n16_ := aM ((by rw [hg]; exact Nat.ne_of_gt (blk_lt (g := gb222) (o := .cells #[.slice Ao28 t215.length co28, .slice Ao31 t218.length co31] 30 (0, 0)) (by (with_reducible repeat (first | refine yN ?_ _ | refine yD ?_ | refine yA ?_ _)); exact BK222.out)) : gb229 ≠ gb222)); clear HO208; clear HO211; clear HO214; clear HO217; clear HO220; clear HO225; clear HO228; clear BK204; clear BK222; clear HB; have HO208 := n0_; have HO211 := n1_; have HO214 := n2_; have HO217 := n3_; have HO220 := n4_; have HO225 := n5_; have HO228 := n6_; have BK204 := n7_; have BK222 := n8_; have HB := n9_; have BK229 := n10_; have GW229 := n11_; have GE229 := n12_; have NB204_229 := n13_; have NB229_204 := n14_; have NB222_229 := n15_; have NB229_222 := n16_; clear n0_ n1_ n2_ n3_ n4_ n5_ n6_ n7_ n8_ n9_ n10_ n11_ n12_ n13_ n14_ n15_ n16_; clear hb hbox hg; obtain ⟨Ao35, co35, eo35⟩ := Kd.R_slice HO225.out; subst eo35; have hnb36 := NB229_204.out; have hnc36 := NB204_229.out; have hnb37 := NB229_222.out; have hnc37 := NB222_229.out; have hcz38_0 : w34.cell? ⟨gb229, 0, none⟩ = some (.slice none 0 0) := (yC BK229.out 0).trans rfl; have hcz38_1 : w34.cell? ⟨gb229, 1, none⟩ = some (.slice none 0 0) := (yC BK229.out 1).trans rfl; have hfz38_0 := yZ BK229.out 0; have hfz38_1 := yZ BK229.out 1; obtain ⟨Ao39, co39, eo39⟩ := Kd.R_slice HO228.out; subst eo39) | ((with_reducible refine gate_callee (f := 31) rfl ?_); refine goesL_ (some 36) rfl rfl Try.func31 (by kernel_rfl) rfl #[.slice A1 l1.length c1] rfl (by (try simp only [List.map_toArray, List.map_cons, List.map_nil]); first | done | rfl | (simp only [List.length_drop, List.length_take]; rfl)) ?_; (with_reducible refine (laws_toBoolS.calls k _ _ l1 t230 _ ?side1 ?side2 A14.out).mono ?_); (case side1 => exact cB HR1.out (by repeat (first | (with_reducible first | exact HB.out | apply zA | apply zN | apply zD | refine zS ?_ GE204.out | refine zS ?_ GE222.out | refine zS ?_ GE229.out) | exact HB.out))); (case side2 => exact HC1.out); rintro e w40 ⟨v231, rfl, ho0, hb⟩; refine ⟨_, rfl, ?_⟩; have n0_ := aM (xB (by (with_reducible repeat (first | apply xA | apply xN | apply xD)); exact (xM (xF (p := ⟨gb229, 1, none⟩) (xF (p := ⟨gb229, 0, none⟩) (xT HO208.out BK229.out (by decide)) (fun _ hk => hk.2) (.slice Ao35 t223.length co35)) (fun _ hk => hk.2) (.slice Ao39 t226.length co39)) (fun _ h_ => h_.1))) hb); have n1_ := aM (xB (by (with_reducible repeat (first | apply xA | apply xN | apply xD)); exact (xM (xF (p := ⟨gb229, 1, none⟩) (xF (p := ⟨gb229, 0, none⟩) (xT HO211.out BK229.out (by decide)) (fun _ hk => hk.2) (.slice Ao35 t223.length co35)) (fun _ hk => hk.2) (.slice Ao39 t226.length co39)) (fun _ h_ => h_.1))) hb); have n2_ := aM (Kd.R_elder' (by (with_reducible repeat (first | apply xA | apply xN | apply xD)); exact (xM (xF (p := ⟨gb229, 1, none⟩) (xF (p := ⟨gb229, 0, none⟩) (xT HO214.out BK229.out (by decide)) (fun _ hk => hk.2) (.slice Ao35 t223.length co35)) (fun _ hk => hk.2) (.slice Ao39 t226.length co39)) (fun _ h_ => h_.1))) (Kd.R_base ho0) hb); have n3_ := aM (xB (by (with_reducible repeat (first | apply xA | apply xN | apply xD)); exact (xM (xF (p := ⟨gb229, 1, none⟩) (xF (p := ⟨gb229, 0, none⟩) (xT HO217.out BK229.out (by decide)) (fun _ hk => hk.2) (.slice Ao35 t223.length co35)) (fun _ hk => hk.2) (.slice Ao39 t226.length co39)) (fun _ h_ => h_.1))) hb); have n4_ := aM (xB (by (with_reducible repeat (first | apply xA | apply xN | apply xD)); exact (xM (xF (p := ⟨gb229, 1, none⟩) (xF (p := ⟨gb229, 0, none⟩) (xT HO220.out BK229.out (by decide)) (fun _ hk => hk.2) (.slice Ao35 t223.length co35)) (fun _ hk => hk.2) (.slice Ao39 t226.length co39)) (fun _ h_ => h_.1))) hb); have n5_ := aM (xB (by (with_reducible repeat (first | apply xA | apply xN | apply xD)); exact (xM (xF (p := ⟨gb229, 1, none⟩) (xF (p := ⟨gb229, 0, none⟩) (xT HO225.out BK229.out (by decide)) (fun _ hk => hk.2) (.slice Ao35 t223.length co35)) (fun _ hk => hk.2) (.slice Ao39 t226.length co39)) (fun _ h_ => h_.1))) hb); have n6_ := aM (xB (by (with_reducible repeat (first | apply xA | apply xN | apply xD)); exact (xM (xF (p := ⟨gb229, 1, none⟩) (xF (p := ⟨gb229, 0, none⟩) (xT HO228.out BK229.out (by decide)) (fun _ hk => hk.2) (.slice Ao35 t223.length co35)) (fun _ hk => hk.2) (.slice Ao39 t226.length co39)) (fun _ h_ => h_.1))) hb); have n7_ := aM (xL (Kd.R_new' ho0 (Kd.R_lt (by (with_reducible repeat (first | apply xA | apply xN | apply xD)); exact (xM (xF (p := ⟨gb229, 1, none⟩) (xF (p := ⟨gb229, 0, none⟩) (xT HO214.out BK229.out (by decide)) (fun _ hk => hk.2) (.slice Ao35 t223.length co35)) (fun _ hk => hk.2) (.slice Ao39 t226.length co39)) (fun _ h_ => h_.1))))) (zZ (by repeat (first | (with_reducible first | exact HB.out | apply zA | apply zN | apply zD | refine zS ?_ GE204.out | refine zS ?_ GE222.out | refine zS ?_ GE229.out) | exact HB.out)))); have n8_ := aM (yB (g := gb204) (o := .cells #[.slice A0_0 l0_0.length c0_0, .slice A0_1 l0_1.length c0_1] 25 (0, 0)) (by (with_reducible repeat (first | refine yN ?_ _ | refine yD ?_ | refine yA ?_ _)); refine yF ?_ NB204_229.out _; (with_reducible repeat (first | refine yN ?_ _ | refine yD ?_ | refine yA ?_ _)); refine yF ?_ NB204_229.out _; (with_reducible repeat (first | refine yN ?_ _ | refine yD ?_ | refine yA ?_ _)); exact BK204.out) hb); have n9_ := aM (yB (g := gb222) (o := .cells #[.slice Ao28 t215.length co28, .slice Ao31 t218.length co31] 30 (0, 0)) (by (with_reducible repeat (first | refine yN ?_ _ | refine yD ?_ | refine yA ?_ _)); refine yF ?_ NB222_229.out _; (with_reducible repeat (first | refine yN ?_ _ | refine yD ?_ | refine yA ?_ _)); refine yF ?_ NB222_229.out _; (with_reducible repeat (first | refine yN ?_ _ | refine yD ?_ | refine yA ?_ _)); exact BK222.out) hb); have n10_ := aM (yB (g := gb229) (o := .cells #[.slice Ao35 t223.length co35, .slice Ao39 t226.length co39] 30 (0, 0)) (by (with_reducible repeat (first | refine yN ?_ _ | refine yD ?_ | refine yA ?_ _)); refine yP (cs := #[.slice Ao35 t223.length co35, .slice none 0 0]) ?_ 1 _ rfl; (with_reducible repeat (first | refine yN ?_ _ | refine yD ?_ | refine yA ?_ _)); refine yP (cs := #[.slice none 0 0, .slice none 0 0]) ?_ 0 _ rfl; (with_reducible repeat (first | refine yN ?_ _ | refine yD ?_ | refine yA ?_ _)); exact BK229.out) hb); have n11_ := aM (zT (by repeat (first | (with_reducible first | exact HB.out | apply zA | apply zN | apply zD | refine zS ?_ GE204.out | refine zS ?_ GE222.out | refine zS ?_ GE229.out) | exact HB.out)) hb); clear HO208; clear HO211; clear HO214; clear HO217; clear HO220; clear HO225; clear HO228; clear BK204; clear BK222; clear BK229; clear HB; have HO208 := n0_; have HO211 := n1_; have HO214 := n2_; have HO217 := n3_; have HO220 := n4_; have HO225 := n5_; have HO228 := n6_; have HO232 := n7_; have BK204 := n8_; have BK222 := n9_; have BK229 := n10_; have HB := n11_; clear n0_ n1_ n2_ n3_ n4_ n5_ n6_ n7_ n8_ n9_ n10_ n11_; (try clear hb); (try clear hb2); (try clear hk); (try clear hi); (try clear ho0); have hcz41_0 : w40.cell? ⟨gb229, 0, none⟩ = some (.slice Ao35 t223.length co35) := (yC BK229.out 0).trans rfl; have hcz41_1 : w40.cell? ⟨gb229, 1, none⟩ = some (.slice Ao39 t226.length co39) := (yC BK229.out 1).trans rfl; have hfz41_0 := yZ BK229.out 0; have hfz41_1 := yZ BK229.out 1; obtain ⟨Ao42, co42, eo42⟩ := Kd.R_slice HO232.out; subst eo42) | ((with_reducible refine gate_callee (f := 32) rfl ?_); refine goesL_ (some 40) rfl rfl Try.func32 (by kernel_rfl) rfl #[.agg #[.slice Ao35 t223.length co35, .slice Ao39 t226.length co39], .slice Ao42 t230.length co42] rfl (by (try simp only [List.map_toArray, List.map_cons, List.map_nil]); first | done | rfl | (simp only [List.length_drop, List.length_take]; rfl)) ?_; (with_reducible refine (impl_CrashDevice.calls _ _ t223 _ _ t226 _ _ t230 t233 t236 t239 _ ?side1 ?side2 ?side3 ?side4 ?side5 ?side6 A15.out).mono ?_); (case side1 => repeat (first | exact (Kd.R_reads' HO225.out).2.2 | (with_reducible refine cA ?_ _) | (with_reducible refine cN ?_ _) | (with_reducible refine cD ?_))); (case side2 => exact (Kd.R_reads' HO225.out).2.1); (case side3 => repeat (first | exact (Kd.R_reads' HO228.out).2.2 | (with_reducible refine cA ?_ _) | (with_reducible refine cN ?_ _) | (with_reducible refine cD ?_))); (case side4 => exact (Kd.R_reads' HO228.out).2.1); (case side5 => repeat (first | exact (Kd.R_reads' HO232.out).2.2 | (with_reducible refine cA ?_ _) | (with_reducible refine cN ?_ _) | (with_reducible refine cD ?_))); (case side6 => exact (Kd.R_reads' HO232.out).2.1); rintro e w43 ⟨v234, v237, rfl, ho0, ho1, hb⟩; refine ⟨_, rfl, ?_⟩; have n0_ := aM (Kd.R_elder' (by (with_reducible repeat (first | apply xA | apply xN | apply xD)); exact HO208.out) (Kd.R_base ho0) hb); have n1_ := aM (Kd.R_elder' (by (with_reducible repeat (first | apply xA | apply xN | apply xD)); exact HO211.out) (Kd.R_base ho1) hb); have n2_ := aM (xB (by (with_reducible repeat (first | apply xA | apply xN | apply xD)); exact HO214.out) hb); have n3_ := aM (Kd.R_elder' (by (with_reducible repeat (first | apply xA | apply xN | apply xD)); exact HO217.out) (Kd.R_base ho0) hb); have n4_ := aM (Kd.R_elder' (by (with_reducible repeat (first | apply xA | apply xN | apply xD)); exact HO220.out) (Kd.R_base ho1) hb); have n5_ := aM (Kd.R_elder' (by (with_reducible repeat (first | apply xA | apply xN | apply xD)); exact HO225.out) (Kd.R_base ho0) hb); have n6_ := aM (Kd.R_elder' (by (with_reducible repeat (first | apply xA | apply xN | apply xD)); exact HO228.out) (Kd.R_base ho1) hb); have n7_ := aM (xB (by (with_reducible repeat (first | apply xA | apply xN | apply xD)); exact HO232.out) hb); have n8_ := aM (xL (Kd.R_new' (Kd.R_new' (Kd.R_new' ho0 (Kd.R_lt (by (with_reducible repeat (first | apply xA | apply xN | apply xD)); exact HO208.out))) (Kd.R_lt (by (with_reducible repeat (first | apply xA | apply xN | apply xD)); exact HO217.out))) (Kd.R_lt (by (with_reducible repeat (first | apply xA | apply xN | apply xD)); exact HO225.out))) (zZ (by repeat (first | (with_reducible first | exact HB.out | apply zA | apply zN | apply zD | refine zS ?_ GE204.out | refine zS ?_ GE222.out | refine zS ?_ GE229.out) | exact HB.out)))); have n9_ := aM (xL (Kd.R_new' (Kd.R_new' (Kd.R_new' ho1 (Kd.R_lt (by (with_reducible repeat (first | apply xA | apply xN | apply xD)); exact HO211.out))) (Kd.R_lt (by (with_reducible repeat (first | apply xA | apply xN | apply xD)); exact HO220.out))) (Kd.R_lt (by (with_reducible repeat (first | apply xA | apply xN | apply xD)); exact HO228.out))) (zZ (by repeat (first | (with_reducible first | exact HB.out | apply zA | apply zN | apply zD | refine zS ?_ GE204.out | refine zS ?_ GE222.out | refine zS ?_ GE229.out) | exact HB.out)))); have n10_ := aM (yB (g := gb204) (o := .cells #[.slice A0_0 l0_0.length c0_0, .slice A0_1 l0_1.length c0_1] 25 (0, 0)) (by (with_reducible repeat (first | refine yN ?_ _ | refine yD ?_ | refine yA ?_ _)); exact BK204.out) hb); have n11_ := aM (yB (g := gb222) (o := .cells #[.slice Ao28 t215.length co28, .slice Ao31 t218.length co31] 30 (0, 0)) (by (with_reducible repeat (first | refine yN ?_ _ | refine yD ?_ | refine yA ?_ _)); exact BK222.out) hb); have n12_ := aM (yB (g := gb229) (o := .cells #[.slice Ao35 t223.length co35, .slice Ao39 t226.length co39] 30 (0, 0)) (by (with_reducible repeat (first | refine yN ?_ _ | refine yD ?_ | refine yA ?_ _)); exact BK229.out) hb); have n13_ := aM (zT (by repeat (first | (with_reducible first | exact HB.out | apply zA | apply zN | apply zD | refine zS ?_ GE204.out | refine zS ?_ GE222.out | refine zS ?_ GE229.out) | exact HB.out)) hb); clear HO208; clear HO211; clear HO214; clear HO217; clear HO220; clear HO225; clear HO228; clear HO232; clear BK204; clear BK222; clear BK229; clear HB; have HO208 := n0_; have HO211 := n1_; have HO214 := n2_; have HO217 := n3_; have HO220 := n4_; have HO225 := n5_; have HO228 := n6_; have HO232 := n7_; have HO235 := n8_; have HO238 := n9_; have BK204 := n10_; have BK222 := n11_; have BK229 := n12_; have HB := n13_; clear n0_ n1_ n2_ n3_ n4_ n5_ n6_ n7_ n8_ n9_ n10_ n11_ n12_ n13_; (try clear hb); (try clear hb2); (try clear hk); (try clear hi); (try clear ho0); (try clear ho1)) | ((with_reducible refine gate_dst (N := 10) rfl ?_); refine box_event ?hg (N := 10) ?hd (cs := #[.slice none 0 0, .slice none 0 0]) (t := 30) ?hr ?_; (case hd => rfl); (case hg => rfl); (case hr => first | (go_simp; done) | (go_simp; rfl)); intro gb240 hg w44 hbox hb; have n0_ := aM (xB (by (with_reducible repeat (first | apply xA | apply xN | apply xD)); exact HO208.out) hb); have n1_ := aM (xB (by (with_reducible repeat (first | apply xA | apply xN | apply xD)); exact HO211.out) hb); have n2_ := aM (xB (by (with_reducible repeat (first | apply xA | apply xN | apply xD)); exact HO214.out) hb); have n3_ := aM (xB (by (with_reducible repeat (first | apply xA | apply xN | apply xD)); exact HO217.out) hb); have n4_ := aM (xB (by (with_reducible repeat (first | apply xA | apply xN | apply xD)); exact HO220.out) hb); have n5_ := aM (xB (by (with_reducible repeat (first | apply xA | apply xN | apply xD)); exact HO225.out) hb); have n6_ := aM (xB (by (with_reducible repeat (first | apply xA | apply xN | apply xD)); exact HO228.out) hb); have n7_ := aM (xB (by (with_reducible repeat (first | apply xA | apply xN | apply xD)); exact HO232.out) hb); have n8_ := aM (xB (by (with_reducible repeat (first | apply xA | apply xN | apply xD)); exact HO235.out) hb); have n9_ := aM (xB (by (with_reducible repeat (first | apply xA | apply xN | apply xD)); exact HO238.out) hb); have n10_ := aM (yB (g := gb204) (o := .cells #[.slice A0_0 l0_0.length c0_0, .slice A0_1 l0_1.length c0_1] 25 (0, 0)) (by (with_reducible repeat (first | refine yN ?_ _ | refine yD ?_ | refine yA ?_ _)); exact BK204.out) hb); have n11_ := aM (yB (g := gb222) (o := .cells #[.slice Ao28 t215.length co28, .slice Ao31 t218.length co31] 30 (0, 0)) (by (with_reducible repeat (first | refine yN ?_ _ | refine yD ?_ | refine yA ?_ _)); exact BK222.out) hb); have n12_ := aM (yB (g := gb229) (o := .cells #[.slice Ao35 t223.length co35, .slice Ao39 t226.length co39] 30 (0, 0)) (by (with_reducible repeat (first | refine yN ?_ _ | refine yD ?_ | refine yA ?_ _)); exact BK229.out) hb); have n13_ := aM (zT (by repeat (first | (with_reducible first | exact HB.out | apply zA | apply zN | apply zD | refine zS ?_ GE204.out | refine zS ?_ GE222.out | refine zS ?_ GE229.out) | exact HB.out)) hb); have n14_ := aM (hbox); have n15_ := aM ((by rw [hg]; exact (zZ (by repeat (first | (with_reducible first | exact HB.out | apply zA | apply zN | apply zD | refine zS ?_ GE204.out | refine zS ?_ GE222.out | refine zS ?_ GE229.out) | exact HB.out))) : w.heap.size ≤ gb240)); have n16_ := aM ((by rw [hg]; exact (zZ (by repeat (first | (with_reducible first | exact HB.out | apply zA | apply zN | apply zD | refine zS ?_ GE204.out | refine zS ?_ GE222.out | refine zS ?_ GE229.out) | exact HB.out))) : w.heap.size ≤ gb240)); have n17_ := aM ((by rw [hg]; exact Nat.ne_of_lt (blk_lt (g := gb204) (o := .cells #[.slice A0_0 l0_0.length c0_0, .slice A0_1 l0_1.length c0_1] 25 (0, 0)) (by (with_reducible repeat (first | refine yN ?_ _ | refine yD ?_ | refine yA ?_ _)); exact BK204.out)) : gb204 ≠ gb240)); have n18_ := aM ((by rw [hg]; exact Nat.ne_of_gt (blk_lt (g := gb204) (o := .cells #[.slice A0_0 l0_0.length c0_0, .slice A0_1 l0_1.length c0_1] 25 (0, 0)) (by (with_reducible repeat (first | refine yN ?_ _ | refine yD ?_ | refine yA ?_ _)); exact BK204.out)) : gb240 ≠ gb204)); have n19_ := aM ((by rw [hg]; exact Nat.ne_of_lt (blk_lt (g := gb222) (o := .cells #[.slice Ao28 t215.length co28, .slice Ao31 t218.length co31] 30 (0, 0)) (by (with_reducible repeat (first | refine yN ?_ _ | refine yD ?_ | refine yA ?_ _)); exact BK222.out)) : gb222 ≠ gb240)); have n20_ := aM ((by rw [hg]; exact Nat.ne_of_gt (blk_lt (g := gb222) (o := .cells #[.slice Ao28 t215.length co28, .slice Ao31 t218.length co31] 30 (0, 0)) (by (with_reducible repeat (first | refine yN ?_ _ | refine yD ?_ | refine yA ?_ _)); exact BK222.out)) : gb240 ≠ gb222)); have n21_ := aM ((by rw [hg]; exact Nat.ne_of_lt (blk_lt (g := gb229) (o := .cells #[.slice Ao35 t223.length co35, .slice Ao39 t226.length co39] 30 (0, 0)) (by (with_reducible repeat (first | refine yN ?_ _ | refine yD ?_ | refine yA ?_ _)); exact BK229.out)) : gb229 ≠ gb240)); have n22_ := aM ((by rw [hg]; exact Nat.ne_of_gt (blk_lt (g := gb229) (o := .cells #[.slice Ao35 t223.length co35, .slice Ao39 t226.length co39] 30 (0, 0)) (by (with_reducible repeat (first | refine yN ?_ _ | refine yD ?_ | refine yA ?_ _)); exact BK229.out)) : gb240 ≠ gb229)); clear HO208; clear HO211; clear HO214; clear HO217; clear HO220; clear HO225; clear HO228; clear HO232; clear HO235; clear HO238; clear BK204; clear BK222; clear BK229; clear HB; have HO208 := n0_; have HO211 := n1_; have HO214 := n2_; have HO217 := n3_; have HO220 := n4_; have HO225 := n5_; have HO228 := n6_; have HO232 := n7_; have HO235 := n8_; have HO238 := n9_; have BK204 := n10_; have BK222 := n11_; have BK229 := n12_; have HB := n13_; have BK240 := n14_; have GW240 := n15_; have GE240 := n16_; have NB204_240 := n17_; have NB240_204 := n18_; have NB222_240 := n19_; have NB240_222 := n20_; have NB229_240 := n21_; have NB240_229 := n22_; clear n0_ n1_ n2_ n3_ n4_ n5_ n6_ n7_ n8_ n9_ n10_ n11_ n12_ n13_ n14_ n15_ n16_ n17_ n18_ n19_ n20_ n21_ n22_; clear hb hbox hg; obtain ⟨Ao45, co45, eo45⟩ := Kd.R_slice HO235.out; subst eo45; have hnb46 := NB240_204.out; have hnc46 := NB204_240.out; have hnb47 := NB240_222.out; have hnc47 := NB222_240.out; have hnb48 := NB240_229.out; have hnc48 := NB229_240.out; have hcz49_0 : w44.cell? ⟨gb240, 0, none⟩ = some (.slice none 0 0) := (yC BK240.out 0).trans rfl; have hcz49_1 : w44.cell? ⟨gb240, 1, none⟩ = some (.slice none 0 0) := (yC BK240.out 1).trans rfl; have hfz49_0 := yZ BK240.out 0; have hfz49_1 := yZ BK240.out 1; obtain ⟨Ao50, co50, eo50⟩ := Kd.R_slice HO238.out; subst eo50))
   (try simp only [Act.put, List.setIfInBounds_toArray, List.set_cons_zero, List.set_cons_succ])
   go_cut [51] (fun v51 wc => ∃ (kq : Nat) (x51_15 : Bool), v51 = .bool x51_15 ∧ Aside0 (laws_FnExactCrashDevice.j0 kq l1 t221 t230 t239 x51_15 l0_0 l0_1 t215 t218 t223 t226 t233 t236 = some r) ∧ Aside0 (kq ≤ k) ∧ Aside0 (Kd.R Kd.bool 4 wc w.heap.size (fun _ => True) (.slice Ao42 t230.length co42) t230) ∧ Aside0 (Kd.R Kd.string 9 wc w.heap.size (fun k_ => some k_ ≠ ((.slice Ao35 t223.length co35) : Value).ownBlock ∧ some k_ ≠ ((.slice Ao45 t233.length co45) : Value).ownBlock) (.slice Ao28 t215.length co28) t215) ∧ Aside0 (Kd.R k42 42 wc w.heap.size (fun k_ => some k_ ≠ ((.slice Ao39 t226.length co39) : Value).ownBlock ∧ some k_ ≠ ((.slice Ao50 t236.length co50) : Value).ownBlock) (.slice Ao31 t218.length co31) t218) ∧ Aside0 (Kd.R Kd.string 9 wc w.heap.size (fun k_ => some k_ ≠ ((.slice Ao28 t215.length co28) : Value).ownBlock ∧ some k_ ≠ ((.slice Ao45 t233.length co45) : Value).ownBlock) (.slice Ao35 t223.length co35) t223) ∧ Aside0 (Kd.R k42 42 wc w.heap.size (fun k_ => some k_ ≠ ((.slice Ao31 t218.length co31) : Value).ownBlock ∧ some k_ ≠ ((.slice Ao50 t236.length co50) : Value).ownBlock) (.slice Ao39 t226.length co39) t226) ∧ Aside0 (Kd.R Kd.string 9 wc w.heap.size (fun k_ => some k_ ≠ ((.slice Ao28 t215.length co28) : Value).ownBlock ∧ some k_ ≠ ((.slice Ao35 t223.length co35) : Value).ownBlock) (.slice Ao45 t233.length co45) t233) ∧ Aside0 (Kd.R k42 42 wc w.heap.size (fun k_ => some k_ ≠ ((.slice Ao31 t218.length co31) : Value).ownBlock ∧ some k_ ≠ ((.slice Ao39 t226.length co39) : Value).ownBlock) (.slice Ao50 t236.length co50) t236) ∧ Aside0 (wc.heap[gb204]? = some (.cells #[(.slice A0_0 l0_0.length c0_0), (.slice A0_1 l0_1.length c0_1)] 25 (0, 0))) ∧ Aside0 (wc.heap[gb222]? = some (.cells #[(.slice Ao28 t215.length co28), (.slice Ao31 t218.length co31)] 30 (0, 0))) ∧ Aside0 (wc.heap[gb229]? = some (.cells #[(.slice Ao35 t223.length co35), (.slice Ao39 t226.length co39)] 30 (0, 0))) ∧ Aside0 (wc.heap[gb240]? = some (.cells #[(.slice Ao45 t233.length co45), (.slice Ao50 t236.length co50)] 30 (0, 0))) ∧ Aside0 (Below w.heap.size w wc))
   case first =>
    have H := HC16.out
    clear HC16
    replace H := Option.bind_eq_some_iff.mp H
    obtain ⟨t241, A510, H⟩ := H
    replace H : (if t241 = true then (laws_FnExactCrashDevice.j0 k l1 t221 t230 t239 (t239 != t221) l0_0 l0_1 t215 t218 t223 t226 t233 t236) else (laws_FnExactCrashDevice.j0 k l1 t221 t230 t239 true l0_0 l0_1 t215 t218 t223 t226 t233 t236)) = some r := H
    have A51 := aM A510
    clear A510
    by_cases c52 : t241 = true
    ·subst c52
     have H1 : (laws_FnExactCrashDevice.j0 k l1 t221 t230 t239 (t239 != t221) l0_0 l0_1 t215 t218 t223 t226 t233 t236) = some r := by rw [if_pos rfl] at H; exact H
     clear H
     have H := H1
     clear H1
     have H' := aM H
     clear H
     have hnb53 := NB240_204.out
     have hnc53 := NB204_240.out
     have hnb54 := NB240_222.out
     have hnc54 := NB222_240.out
     have hnb55 := NB240_229.out
     have hnc55 := NB229_240.out
     have hcz56_0 : w44.cell? ⟨gb240, 0, none⟩ = some (.slice none 0 0) := (yC BK240.out 0).trans rfl
     have hcz56_1 : w44.cell? ⟨gb240, 1, none⟩ = some (.slice none 0 0) := (yC BK240.out 1).trans rfl
     have hfz56_0 := yZ BK240.out 0
     have hfz56_1 := yZ BK240.out 1
     have hnb57 := NB222_204.out
     have hnc57 := NB204_222.out
     have hnb58 := NB222_229.out
     have hnc58 := NB229_222.out
     have hcz59_0 : w44.cell? ⟨gb222, 0, none⟩ = some (.slice Ao28 t215.length co28) := (yC BK222.out 0).trans rfl
     have hcz59_1 : w44.cell? ⟨gb222, 1, none⟩ = some (.slice Ao31 t218.length co31) := (yC BK222.out 1).trans rfl
     have hfz59_0 := yZ BK222.out 0
     have hfz59_1 := yZ BK222.out 1
     go_wp2_with (first | ((with_reducible refine gate_callee (f := 17) rfl ?_); refine goesL_ (some 45) rfl rfl Try.func17 (by kernel_rfl) rfl #[.agg #[.slice Ao45 t233.length co45, .slice Ao50 t236.length co50], .agg #[.slice Ao28 t215.length co28, .slice Ao31 t218.length co31]] rfl (by (try simp only [List.map_toArray, List.map_cons, List.map_nil]); first | done | rfl | (simp only [List.length_drop, List.length_take]; rfl)) ?_; (with_reducible refine (laws_eqDevice.calls k _ _ t233 _ _ t236 _ _ t215 _ _ t218 true _ ?side1 ?side2 ?side3 ?side4 ?side5 ?side6 ?side7 ?side8 A51.out).mono ?_); (case side1 => refine (Kd.R_reads' (e := 9) (base := w.heap.size) (ok := fun k_ => (((True ∧ some k_ ≠ (.slice Ao23 t206.length co23 : Value).ownBlock) ∧ some k_ ≠ (.slice Ao28 t215.length co28 : Value).ownBlock) ∧ some k_ ≠ (.slice Ao35 t223.length co35 : Value).ownBlock)) (n := t233.length) (c := co45) ?_).2.2; exact (by (with_reducible repeat (first | apply xA | apply xN | apply xD)); exact (xM (xF (p := ⟨gb240, 1, none⟩) (xF (p := ⟨gb240, 0, none⟩) (xT HO235.out BK240.out (by decide)) (fun _ hk => hk.2) (.slice Ao45 t233.length co45)) (fun _ hk => hk.2) (.slice Ao50 t236.length co50)) (fun _ h_ => h_.1)))); (case side2 => exact (Kd.R_reads' HO235.out).2.1); (case side3 => refine (Kd.R_reads' (e := 42) (base := w.heap.size) (ok := fun k_ => (((True ∧ some k_ ≠ (.slice Ao24 t209.length co24 : Value).ownBlock) ∧ some k_ ≠ (.slice Ao31 t218.length co31 : Value).ownBlock) ∧ some k_ ≠ (.slice Ao39 t226.length co39 : Value).ownBlock)) (n := t236.length) (c := co50) ?_).2.2; exact (by (with_reducible repeat (first | apply xA | apply xN | apply xD)); exact (xM (xF (p := ⟨gb240, 1, none⟩) (xF (p := ⟨gb240, 0, none⟩) (xT HO238.out BK240.out (by decide)) (fun _ hk => hk.2) (.slice Ao45 t233.length co45)) (fun _ hk => hk.2) (.slice Ao50 t236.length co50)) (fun _ h_ => h_.1)))); (case side4 => exact (Kd.R_reads' HO238.out).2.1); (case side5 => refine (Kd.R_reads' (e := 9) (base := w.heap.size) (ok := fun k_ => (((True ∧ some k_ ≠ (.slice Ao23 t206.length co23 : Value).ownBlock) ∧ some k_ ≠ (.slice Ao35 t223.length co35 : Value).ownBlock) ∧ some k_ ≠ (.slice Ao45 t233.length co45 : Value).ownBlock)) (n := t215.length) (c := co28) ?_).2.2; exact (by (with_reducible repeat (first | apply xA | apply xN | apply xD)); exact (xM (xF (p := ⟨gb240, 1, none⟩) (xF (p := ⟨gb240, 0, none⟩) (xT HO217.out BK240.out (by decide)) (fun _ hk => hk.2) (.slice Ao45 t233.length co45)) (fun _ hk => hk.2) (.slice Ao50 t236.length co50)) (fun _ h_ => h_.1)))); (case side6 => exact (Kd.R_reads' HO217.out).2.1); (case side7 => refine (Kd.R_reads' (e := 42) (base := w.heap.size) (ok := fun k_ => (((True ∧ some k_ ≠ (.slice Ao24 t209.length co24 : Value).ownBlock) ∧ some k_ ≠ (.slice Ao39 t226.length co39 : Value).ownBlock) ∧ some k_ ≠ (.slice Ao50 t236.length co50 : Value).ownBlock)) (n := t218.length) (c := co31) ?_).2.2; exact (by (with_reducible repeat (first | apply xA | apply xN | apply xD)); exact (xM (xF (p := ⟨gb240, 1, none⟩) (xF (p := ⟨gb240, 0, none⟩) (xT HO220.out BK240.out (by decide)) (fun _ hk => hk.2) (.slice Ao45 t233.length co45)) (fun _ hk => hk.2) (.slice Ao50 t236.length co50)) (fun _ h_ => h_.1)))); (case side8 => exact (Kd.R_reads' HO220.out).2.1); rintro e w60 ⟨rfl, hb⟩; refine ⟨_, rfl, ?_⟩; have n0_ := aM (xB (by (with_reducible repeat (first | apply xA | apply xN | apply xD)); exact (xM (xF (p := ⟨gb240, 1, none⟩) (xF (p := ⟨gb240, 0, none⟩) (xT HO208.out BK240.out (by decide)) (fun _ hk => hk.2) (.slice Ao45 t233.length co45)) (fun _ hk => hk.2) (.slice Ao50 t236.length co50)) (fun _ h_ => h_.1))) hb); have n1_ := aM (xB (by (with_reducible repeat (first | apply xA | apply xN | apply xD)); exact (xM (xF (p := ⟨gb240, 1, none⟩) (xF (p := ⟨gb240, 0, none⟩) (xT HO211.out BK240.out (by decide)) (fun _ hk => hk.2) (.slice Ao45 t233.length co45)) (fun _ hk => hk.2) (.slice Ao50 t236.length co50)) (fun _ h_ => h_.1))) hb); have n2_ := aM (xB (by (with_reducible repeat (first | apply xA | apply xN | apply xD)); exact (xM (xF (p := ⟨gb240, 1, none⟩) (xF (p := ⟨gb240, 0, none⟩) (xT HO214.out BK240.out (by decide)) (fun _ hk => hk.2) (.slice Ao45 t233.length co45)) (fun _ hk => hk.2) (.slice Ao50 t236.length co50)) (fun _ h_ => h_.1))) hb); have n3_ := aM (xB (by (with_reducible repeat (first | apply xA | apply xN | apply xD)); exact (xM (xF (p := ⟨gb240, 1, none⟩) (xF (p := ⟨gb240, 0, none⟩) (xT HO217.out BK240.out (by decide)) (fun _ hk => hk.2) (.slice Ao45 t233.length co45)) (fun _ hk => hk.2) (.slice Ao50 t236.length co50)) (fun _ h_ => h_.1))) hb); have n4_ := aM (xB (by (with_reducible repeat (first | apply xA | apply xN | apply xD)); exact (xM (xF (p := ⟨gb240, 1, none⟩) (xF (p := ⟨gb240, 0, none⟩) (xT HO220.out BK240.out (by decide)) (fun _ hk => hk.2) (.slice Ao45 t233.length co45)) (fun _ hk => hk.2) (.slice Ao50 t236.length co50)) (fun _ h_ => h_.1))) hb); have n5_ := aM (xB (by (with_reducible repeat (first | apply xA | apply xN | apply xD)); exact (xM (xF (p := ⟨gb240, 1, none⟩) (xF (p := ⟨gb240, 0, none⟩) (xT HO225.out BK240.out (by decide)) (fun _ hk => hk.2) (.slice Ao45 t233.length co45)) (fun _ hk => hk.2) (.slice Ao50 t236.length co50)) (fun _ h_ => h_.1))) hb); have n6_ := aM (xB (by (with_reducible repeat (first | apply xA | apply xN | apply xD)); exact (xM (xF (p := ⟨gb240, 1, none⟩) (xF (p := ⟨gb240, 0, none⟩) (xT HO228.out BK240.out (by decide)) (fun _ hk => hk.2) (.slice Ao45 t233.length co45)) (fun _ hk => hk.2) (.slice Ao50 t236.length co50)) (fun _ h_ => h_.1))) hb); have n7_ := aM (xB (by (with_reducible repeat (first | apply xA | apply xN | apply xD)); exact (xM (xF (p := ⟨gb240, 1, none⟩) (xF (p := ⟨gb240, 0, none⟩) (xT HO232.out BK240.out (by decide)) (fun _ hk => hk.2) (.slice Ao45 t233.length co45)) (fun _ hk => hk.2) (.slice Ao50 t236.length co50)) (fun _ h_ => h_.1))) hb); have n8_ := aM (xB (by (with_reducible repeat (first | apply xA | apply xN | apply xD)); exact (xM (xF (p := ⟨gb240, 1, none⟩) (xF (p := ⟨gb240, 0, none⟩) (xT HO235.out BK240.out (by decide)) (fun _ hk => hk.2) (.slice Ao45 t233.length co45)) (fun _ hk => hk.2) (.slice Ao50 t236.length co50)) (fun _ h_ => h_.1))) hb); have n9_ := aM (xB (by (with_reducible repeat (first | apply xA | apply xN | apply xD)); exact (xM (xF (p := ⟨gb240, 1, none⟩) (xF (p := ⟨gb240, 0, none⟩) (xT HO238.out BK240.out (by decide)) (fun _ hk => hk.2) (.slice Ao45 t233.length co45)) (fun _ hk => hk.2) (.slice Ao50 t236.length co50)) (fun _ h_ => h_.1))) hb); have n10_ := aM (yB (g := gb204) (o := .cells #[.slice A0_0 l0_0.length c0_0, .slice A0_1 l0_1.length c0_1] 25 (0, 0)) (by (with_reducible repeat (first | refine yN ?_ _ | refine yD ?_ | refine yA ?_ _)); refine yF ?_ NB204_240.out _; (with_reducible repeat (first | refine yN ?_ _ | refine yD ?_ | refine yA ?_ _)); refine yF ?_ NB204_240.out _; (with_reducible repeat (first | refine yN ?_ _ | refine yD ?_ | refine yA ?_ _)); exact BK204.out) hb); have n11_ := aM (yB (g := gb222) (o := .cells #[.slice Ao28 t215.length co28, .slice Ao31 t218.length co31] 30 (0, 0)) (by (with_reducible repeat (first | refine yN ?_ _ | refine yD ?_ | refine yA ?_ _)); refine yF ?_ NB222_240.out _; (with_reducible repeat (first | refine yN ?_ _ | refine yD ?_ | refine yA ?_ _)); refine yF ?_ NB222_240.out _; (with_reducible repeat (first | refine yN ?_ _ | refine yD ?_ | refine yA ?_ _)); exact BK222.out) hb); have n12_ := aM (yB (g := gb229) (o := .cells #[.slice Ao35 t223.length co35, .slice Ao39 t226.length co39] 30 (0, 0)) (by (with_reducible repeat (first | refine yN ?_ _ | refine yD ?_ | refine yA ?_ _)); refine yF ?_ NB229_240.out _; (with_reducible repeat (first | refine yN ?_ _ | refine yD ?_ | refine yA ?_ _)); refine yF ?_ NB229_240.out _; (with_reducible repeat (first | refine yN ?_ _ | refine yD ?_ | refine yA ?_ _)); exact BK229.out) hb); have n13_ := aM (yB (g := gb240) (o := .cells #[.slice Ao45 t233.length co45, .slice Ao50 t236.length co50] 30 (0, 0)) (by (with_reducible repeat (first | refine yN ?_ _ | refine yD ?_ | refine yA ?_ _)); refine yP (cs := #[.slice Ao45 t233.length co45, .slice none 0 0]) ?_ 1 _ rfl; (with_reducible repeat (first | refine yN ?_ _ | refine yD ?_ | refine yA ?_ _)); refine yP (cs := #[.slice none 0 0, .slice none 0 0]) ?_ 0 _ rfl; (with_reducible repeat (first | refine yN ?_ _ | refine yD ?_ | refine yA ?_ _)); exact BK240.out) hb); have n14_ := aM (zT (by repeat (first | (with_reducible first | exact HB.out | apply zA | apply zN | apply zD | refine zS ?_ GE204.out | refine zS ?_ GE222.out | refine zS ?_ GE229.out | refine zS ?_ GE240.out) | exact HB.out)) hb); clear HO208; clear HO211; clear HO214; clear HO217; clear HO220; clear HO225; clear HO228; clear HO232; clear HO235; clear HO238; clear BK204; clear BK222; clear BK229; clear BK240; clear HB; have HO208 := n0_; have HO211 := n1_; have HO214 := n2_; have HO217 := n3_; have HO220 := n4_; have HO225 := n5_; have HO228 := n6_; have HO232 := n7_; have HO235 := n8_; have HO238 := n9_; have BK204 := n10_; have BK222 := n11_; have BK229 := n12_; have BK240 := n13_; have HB := n14_; clear n0_ n1_ n2_ n3_ n4_ n5_ n6_ n7_ n8_ n9_ n10_ n11_ n12_ n13_ n14_; (try clear hb); (try clear hb2); (try clear hk); (try clear hi)))
     go_meet
     case rel => exact ⟨_, ((t239 != t221)), (by first | rfl | (simp; done) | (simp [*]; done)), H', ⟨by first | omega | exact Nat.le_refl _⟩, ⟨by (with_reducible repeat (first | apply xA | apply xN | apply xD)); exact xM HO232.out (fun _ hk => trivial)⟩, ⟨by (with_reducible repeat (first | apply xA | apply xN | apply xD)); exact xM HO217.out (fun _ hk => ⟨hk.1.2, hk.2⟩)⟩, ⟨by (with_reducible repeat (first | apply xA | apply xN | apply xD)); exact xM HO220.out (fun _ hk => ⟨hk.1.2, hk.2⟩)⟩, ⟨by (with_reducible repeat (first | apply xA | apply xN | apply xD)); exact xM HO225.out (fun _ hk => ⟨hk.1.2, hk.2⟩)⟩, ⟨by (with_reducible repeat (first | apply xA | apply xN | apply xD)); exact xM HO228.out (fun _ hk => ⟨hk.1.2, hk.2⟩)⟩, ⟨by (with_reducible repeat (first | apply xA | apply xN | apply xD)); exact xM HO235.out (fun _ hk => ⟨hk.1.2, hk.2⟩)⟩, ⟨by (with_reducible repeat (first | apply xA | apply xN | apply xD)); exact xM HO238.out (fun _ hk => ⟨hk.1.2, hk.2⟩)⟩, ⟨by (with_reducible repeat (first | refine yN ?_ _ | refine yD ?_ | refine yA ?_ _)); exact BK204.out⟩, ⟨by (with_reducible repeat (first | refine yN ?_ _ | refine yD ?_ | refine yA ?_ _)); exact BK222.out⟩, ⟨by (with_reducible repeat (first | refine yN ?_ _ | refine yD ?_ | refine yA ?_ _)); exact BK229.out⟩, ⟨by (with_reducible repeat (first | refine yN ?_ _ | refine yD ?_ | refine yA ?_ _)); exact BK240.out⟩, ⟨by repeat (first | (with_reducible first | exact HB.out | apply zA | apply zN | apply zD | refine zS ?_ GE204.out | refine zS ?_ GE222.out | refine zS ?_ GE229.out | refine zS ?_ GE240.out) | exact HB.out)⟩⟩
    ·replace c52 := Bool.eq_false_iff.mpr c52
     subst c52
     have H1 : (laws_FnExactCrashDevice.j0 k l1 t221 t230 t239 true l0_0 l0_1 t215 t218 t223 t226 t233 t236) = some r := by rw [if_neg (show ¬ (false = true) by decide)] at H; exact H
     clear H
     have H := H1
     clear H1
     have H' := aM H
     clear H
     have hnb61 := NB240_204.out
     have hnc61 := NB204_240.out
     have hnb62 := NB240_222.out
     have hnc62 := NB222_240.out
     have hnb63 := NB240_229.out
     have hnc63 := NB229_240.out
     have hcz64_0 : w44.cell? ⟨gb240, 0, none⟩ = some (.slice none 0 0) := (yC BK240.out 0).trans rfl
     have hcz64_1 : w44.cell? ⟨gb240, 1, none⟩ = some (.slice none 0 0) := (yC BK240.out 1).trans rfl
     have hfz64_0 := yZ BK240.out 0
     have hfz64_1 := yZ BK240.out 1
     have hnb65 := NB222_204.out
     have hnc65 := NB204_222.out
     have hnb66 := NB222_229.out
     have hnc66 := NB229_222.out
     have hcz67_0 : w44.cell? ⟨gb222, 0, none⟩ = some (.slice Ao28 t215.length co28) := (yC BK222.out 0).trans rfl
     have hcz67_1 : w44.cell? ⟨gb222, 1, none⟩ = some (.slice Ao31 t218.length co31) := (yC BK222.out 1).trans rfl
     have hfz67_0 := yZ BK222.out 0
     have hfz67_1 := yZ BK222.out 1
     go_wp2_with (first | ((with_reducible refine gate_callee (f := 17) rfl ?_); refine goesL_ (some 45) rfl rfl Try.func17 (by kernel_rfl) rfl #[.agg #[.slice Ao45 t233.length co45, .slice Ao50 t236.length co50], .agg #[.slice Ao28 t215.length co28, .slice Ao31 t218.length co31]] rfl (by (try simp only [List.map_toArray, List.map_cons, List.map_nil]); first | done | rfl | (simp only [List.length_drop, List.length_take]; rfl)) ?_; (with_reducible refine (laws_eqDevice.calls k _ _ t233 _ _ t236 _ _ t215 _ _ t218 false _ ?side1 ?side2 ?side3 ?side4 ?side5 ?side6 ?side7 ?side8 A51.out).mono ?_); (case side1 => refine (Kd.R_reads' (e := 9) (base := w.heap.size) (ok := fun k_ => (((True ∧ some k_ ≠ (.slice Ao23 t206.length co23 : Value).ownBlock) ∧ some k_ ≠ (.slice Ao28 t215.length co28 : Value).ownBlock) ∧ some k_ ≠ (.slice Ao35 t223.length co35 : Value).ownBlock)) (n := t233.length) (c := co45) ?_).2.2; exact (by (with_reducible repeat (first | apply xA | apply xN | apply xD)); exact (xM (xF (p := ⟨gb240, 1, none⟩) (xF (p := ⟨gb240, 0, none⟩) (xT HO235.out BK240.out (by decide)) (fun _ hk => hk.2) (.slice Ao45 t233.length co45)) (fun _ hk => hk.2) (.slice Ao50 t236.length co50)) (fun _ h_ => h_.1)))); (case side2 => exact (Kd.R_reads' HO235.out).2.1); (case side3 => refine (Kd.R_reads' (e := 42) (base := w.heap.size) (ok := fun k_ => (((True ∧ some k_ ≠ (.slice Ao24 t209.length co24 : Value).ownBlock) ∧ some k_ ≠ (.slice Ao31 t218.length co31 : Value).ownBlock) ∧ some k_ ≠ (.slice Ao39 t226.length co39 : Value).ownBlock)) (n := t236.length) (c := co50) ?_).2.2; exact (by (with_reducible repeat (first | apply xA | apply xN | apply xD)); exact (xM (xF (p := ⟨gb240, 1, none⟩) (xF (p := ⟨gb240, 0, none⟩) (xT HO238.out BK240.out (by decide)) (fun _ hk => hk.2) (.slice Ao45 t233.length co45)) (fun _ hk => hk.2) (.slice Ao50 t236.length co50)) (fun _ h_ => h_.1)))); (case side4 => exact (Kd.R_reads' HO238.out).2.1); (case side5 => refine (Kd.R_reads' (e := 9) (base := w.heap.size) (ok := fun k_ => (((True ∧ some k_ ≠ (.slice Ao23 t206.length co23 : Value).ownBlock) ∧ some k_ ≠ (.slice Ao35 t223.length co35 : Value).ownBlock) ∧ some k_ ≠ (.slice Ao45 t233.length co45 : Value).ownBlock)) (n := t215.length) (c := co28) ?_).2.2; exact (by (with_reducible repeat (first | apply xA | apply xN | apply xD)); exact (xM (xF (p := ⟨gb240, 1, none⟩) (xF (p := ⟨gb240, 0, none⟩) (xT HO217.out BK240.out (by decide)) (fun _ hk => hk.2) (.slice Ao45 t233.length co45)) (fun _ hk => hk.2) (.slice Ao50 t236.length co50)) (fun _ h_ => h_.1)))); (case side6 => exact (Kd.R_reads' HO217.out).2.1); (case side7 => refine (Kd.R_reads' (e := 42) (base := w.heap.size) (ok := fun k_ => (((True ∧ some k_ ≠ (.slice Ao24 t209.length co24 : Value).ownBlock) ∧ some k_ ≠ (.slice Ao39 t226.length co39 : Value).ownBlock) ∧ some k_ ≠ (.slice Ao50 t236.length co50 : Value).ownBlock)) (n := t218.length) (c := co31) ?_).2.2; exact (by (with_reducible repeat (first | apply xA | apply xN | apply xD)); exact (xM (xF (p := ⟨gb240, 1, none⟩) (xF (p := ⟨gb240, 0, none⟩) (xT HO220.out BK240.out (by decide)) (fun _ hk => hk.2) (.slice Ao45 t233.length co45)) (fun _ hk => hk.2) (.slice Ao50 t236.length co50)) (fun _ h_ => h_.1)))); (case side8 => exact (Kd.R_reads' HO220.out).2.1); rintro e w68 ⟨rfl, hb⟩; refine ⟨_, rfl, ?_⟩; have n0_ := aM (xB (by (with_reducible repeat (first | apply xA | apply xN | apply xD)); exact (xM (xF (p := ⟨gb240, 1, none⟩) (xF (p := ⟨gb240, 0, none⟩) (xT HO208.out BK240.out (by decide)) (fun _ hk => hk.2) (.slice Ao45 t233.length co45)) (fun _ hk => hk.2) (.slice Ao50 t236.length co50)) (fun _ h_ => h_.1))) hb); have n1_ := aM (xB (by (with_reducible repeat (first | apply xA | apply xN | apply xD)); exact (xM (xF (p := ⟨gb240, 1, none⟩) (xF (p := ⟨gb240, 0, none⟩) (xT HO211.out BK240.out (by decide)) (fun _ hk => hk.2) (.slice Ao45 t233.length co45)) (fun _ hk => hk.2) (.slice Ao50 t236.length co50)) (fun _ h_ => h_.1))) hb); have n2_ := aM (xB (by (with_reducible repeat (first | apply xA | apply xN | apply xD)); exact (xM (xF (p := ⟨gb240, 1, none⟩) (xF (p := ⟨gb240, 0, none⟩) (xT HO214.out BK240.out (by decide)) (fun _ hk => hk.2) (.slice Ao45 t233.length co45)) (fun _ hk => hk.2) (.slice Ao50 t236.length co50)) (fun _ h_ => h_.1))) hb); have n3_ := aM (xB (by (with_reducible repeat (first | apply xA | apply xN | apply xD)); exact (xM (xF (p := ⟨gb240, 1, none⟩) (xF (p := ⟨gb240, 0, none⟩) (xT HO217.out BK240.out (by decide)) (fun _ hk => hk.2) (.slice Ao45 t233.length co45)) (fun _ hk => hk.2) (.slice Ao50 t236.length co50)) (fun _ h_ => h_.1))) hb); have n4_ := aM (xB (by (with_reducible repeat (first | apply xA | apply xN | apply xD)); exact (xM (xF (p := ⟨gb240, 1, none⟩) (xF (p := ⟨gb240, 0, none⟩) (xT HO220.out BK240.out (by decide)) (fun _ hk => hk.2) (.slice Ao45 t233.length co45)) (fun _ hk => hk.2) (.slice Ao50 t236.length co50)) (fun _ h_ => h_.1))) hb); have n5_ := aM (xB (by (with_reducible repeat (first | apply xA | apply xN | apply xD)); exact (xM (xF (p := ⟨gb240, 1, none⟩) (xF (p := ⟨gb240, 0, none⟩) (xT HO225.out BK240.out (by decide)) (fun _ hk => hk.2) (.slice Ao45 t233.length co45)) (fun _ hk => hk.2) (.slice Ao50 t236.length co50)) (fun _ h_ => h_.1))) hb); have n6_ := aM (xB (by (with_reducible repeat (first | apply xA | apply xN | apply xD)); exact (xM (xF (p := ⟨gb240, 1, none⟩) (xF (p := ⟨gb240, 0, none⟩) (xT HO228.out BK240.out (by decide)) (fun _ hk => hk.2) (.slice Ao45 t233.length co45)) (fun _ hk => hk.2) (.slice Ao50 t236.length co50)) (fun _ h_ => h_.1))) hb); have n7_ := aM (xB (by (with_reducible repeat (first | apply xA | apply xN | apply xD)); exact (xM (xF (p := ⟨gb240, 1, none⟩) (xF (p := ⟨gb240, 0, none⟩) (xT HO232.out BK240.out (by decide)) (fun _ hk => hk.2) (.slice Ao45 t233.length co45)) (fun _ hk => hk.2) (.slice Ao50 t236.length co50)) (fun _ h_ => h_.1))) hb); have n8_ := aM (xB (by (with_reducible repeat (first | apply xA | apply xN | apply xD)); exact (xM (xF (p := ⟨gb240, 1, none⟩) (xF (p := ⟨gb240, 0, none⟩) (xT HO235.out BK240.out (by decide)) (fun _ hk => hk.2) (.slice Ao45 t233.length co45)) (fun _ hk => hk.2) (.slice Ao50 t236.length co50)) (fun _ h_ => h_.1))) hb); have n9_ := aM (xB (by (with_reducible repeat (first | apply xA | apply xN | apply xD)); exact (xM (xF (p := ⟨gb240, 1, none⟩) (xF (p := ⟨gb240, 0, none⟩) (xT HO238.out BK240.out (by decide)) (fun _ hk => hk.2) (.slice Ao45 t233.length co45)) (fun _ hk => hk.2) (.slice Ao50 t236.length co50)) (fun _ h_ => h_.1))) hb); have n10_ := aM (yB (g := gb204) (o := .cells #[.slice A0_0 l0_0.length c0_0, .slice A0_1 l0_1.length c0_1] 25 (0, 0)) (by (with_reducible repeat (first | refine yN ?_ _ | refine yD ?_ | refine yA ?_ _)); refine yF ?_ NB204_240.out _; (with_reducible repeat (first | refine yN ?_ _ | refine yD ?_ | refine yA ?_ _)); refine yF ?_ NB204_240.out _; (with_reducible repeat (first | refine yN ?_ _ | refine yD ?_ | refine yA ?_ _)); exact BK204.out) hb); have n11_ := aM (yB (g := gb222) (o := .cells #[.slice Ao28 t215.length co28, .slice Ao31 t218.length co31] 30 (0, 0)) (by (with_reducible repeat (first | refine yN ?_ _ | refine yD ?_ | refine yA ?_ _)); refine yF ?_ NB222_240.out _; (with_reducible repeat (first | refine yN ?_ _ | refine yD ?_ | refine yA ?_ _)); refine yF ?_ NB222_240.out _; (with_reducible repeat (first | refine yN ?_ _ | refine yD ?_ | refine yA ?_ _)); exact BK222.out) hb); have n12_ := aM (yB (g := gb229) (o := .cells #[.slice Ao35 t223.length co35, .slice Ao39 t226.length co39] 30 (0, 0)) (by (with_reducible repeat (first | refine yN ?_ _ | refine yD ?_ | refine yA ?_ _)); refine yF ?_ NB229_240.out _; (with_reducible repeat (first | refine yN ?_ _ | refine yD ?_ | refine yA ?_ _)); refine yF ?_ NB229_240.out _; (with_reducible repeat (first | refine yN ?_ _ | refine yD ?_ | refine yA ?_ _)); exact BK229.out) hb); have n13_ := aM (yB (g := gb240) (o := .cells #[.slice Ao45 t233.length co45, .slice Ao50 t236.length co50] 30 (0, 0)) (by (with_reducible repeat (first | refine yN ?_ _ | refine yD ?_ | refine yA ?_ _)); refine yP (cs := #[.slice Ao45 t233.length co45, .slice none 0 0]) ?_ 1 _ rfl; (with_reducible repeat (first | refine yN ?_ _ | refine yD ?_ | refine yA ?_ _)); refine yP (cs := #[.slice none 0 0, .slice none 0 0]) ?_ 0 _ rfl; (with_reducible repeat (first | refine yN ?_ _ | refine yD ?_ | refine yA ?_ _)); exact BK240.out) hb); have n14_ := aM (zT (by repeat (first | (with_reducible first | exact HB.out | apply zA | apply zN | apply zD | refine zS ?_ GE204.out | refine zS ?_ GE222.out | refine zS ?_ GE229.out | refine zS ?_ GE240.out) | exact HB.out)) hb); clear HO208; clear HO211; clear HO214; clear HO217; clear HO220; clear HO225; clear HO228; clear HO232; clear HO235; clear HO238; clear BK204; clear BK222; clear BK229; clear BK240; clear HB; have HO208 := n0_; have HO211 := n1_; have HO214 := n2_; have HO217 := n3_; have HO220 := n4_; have HO225 := n5_; have HO228 := n6_; have HO232 := n7_; have HO235 := n8_; have HO238 := n9_; have BK204 := n10_; have BK222 := n11_; have BK229 := n12_; have BK240 := n13_; have HB := n14_; clear n0_ n1_ n2_ n3_ n4_ n5_ n6_ n7_ n8_ n9_ n10_ n11_ n12_ n13_ n14_; (try clear hb); (try clear hb2); (try clear hk); (try clear hi)))
     go_meet
     case rel => exact ⟨_, (true), (by first | rfl | (simp; done) | (simp [*]; done)), H', ⟨by first | omega | exact Nat.le_refl _⟩, ⟨by (with_reducible repeat (first | apply xA | apply xN | apply xD)); exact xM HO232.out (fun _ hk => trivial)⟩, ⟨by (with_reducible repeat (first | apply xA | apply xN | apply xD)); exact xM HO217.out (fun _ hk => ⟨hk.1.2, hk.2⟩)⟩, ⟨by (with_reducible repeat (first | apply xA | apply xN | apply xD)); exact xM HO220.out (fun _ hk => ⟨hk.1.2, hk.2⟩)⟩, ⟨by (with_reducible repeat (first | apply xA | apply xN | apply xD)); exact xM HO225.out (fun _ hk => ⟨hk.1.2, hk.2⟩)⟩, ⟨by (with_reducible repeat (first | apply xA | apply xN | apply xD)); exact xM HO228.out (fun _ hk => ⟨hk.1.2, hk.2⟩)⟩, ⟨by (with_reducible repeat (first | apply xA | apply xN | apply xD)); exact xM HO235.out (fun _ hk => ⟨hk.1.2, hk.2⟩)⟩, ⟨by (with_reducible repeat (first | apply xA | apply xN | apply xD)); exact xM HO238.out (fun _ hk => ⟨hk.1.2, hk.2⟩)⟩, ⟨by (with_reducible repeat (first | refine yN ?_ _ | refine yD ?_ | refine yA ?_ _)); exact BK204.out⟩, ⟨by (with_reducible repeat (first | refine yN ?_ _ | refine yD ?_ | refine yA ?_ _)); exact BK222.out⟩, ⟨by (with_reducible repeat (first | refine yN ?_ _ | refine yD ?_ | refine yA ?_ _)); exact BK229.out⟩, ⟨by (with_reducible repeat (first | refine yN ?_ _ | refine yD ?_ | refine yA ?_ _)); exact BK240.out⟩, ⟨by repeat (first | (with_reducible first | exact HB.out | apply zA | apply zN | apply zD | refine zS ?_ GE204.out | refine zS ?_ GE222.out | refine zS ?_ GE229.out | refine zS ?_ GE240.out) | exact HB.out)⟩⟩
   case rest =>
    clear HC16
    try clear c1
    try clear c2
    try clear p2
    try clear c3
    try clear c3b0
    try clear c3b1
    try clear c4
    try clear c5
    try clear c6
    try clear c6b0
    try clear c8
    try clear c13
    try clear c15
    try clear c17
    try clear c29
    try clear c30
    try clear c31
    try clear c32
    try clear c36
    try clear c37
    try clear c46
    try clear c47
    try clear c48
    try clear c52
    try clear c53
    try clear c54
    try clear c55
    try clear c57
    try clear c58
    try clear c61
    try clear c62
    try clear c63
    try clear c65
    try clear c66
    try clear hcz18_0
    try clear hcz18_1
    try clear hcz20_0
    try clear hcz20_1
    try clear hcz30_0
    try clear hcz30_1
    try clear hcz32_0
    try clear hcz32_1
    try clear hcz38_0
    try clear hcz38_1
    try clear hcz41_0
    try clear hcz41_1
    try clear hcz49_0
    try clear hcz49_1
    try clear hcz56_0
    try clear hcz56_1
    try clear hcz59_0
    try clear hcz59_1
    try clear hcz64_0
    try clear hcz64_1
    try clear hcz67_0
    try clear hcz67_1
    try clear hcz8_0
    try clear hcz8_1
    try clear hfz18_0
    try clear hfz18_1
    try clear hfz20_0
    try clear hfz20_1
    try clear hfz30_0
    try clear hfz30_1
    try clear hfz32_0
    try clear hfz32_1
    try clear hfz38_0
    try clear hfz38_1
    try clear hfz41_0
    try clear hfz41_1
    try clear hfz49_0
    try clear hfz49_1
    try clear hfz56_0
    try clear hfz56_1
    try clear hfz59_0
    try clear hfz59_1
    try clear hfz64_0
    try clear hfz64_1
    try clear hfz67_0
    try clear hfz67_1
    try clear hfz8_0
    try clear hfz8_1
    obtain ⟨kq, x51_15, rfl, HA, HJ15, HO_9, HO_223000, HO_223001, HO_230000, HO_230001, HO_241000, HO_241001, BK204, BK222, BK229, BK240, HB⟩ := hcut
    cases kq with
    | zero => exact absurd HA.out (fun h_ => by change none = some _ at h_; cases h_)
    | succ kj15 =>
     have H := HA.out
     clear HA
     simp only [laws_FnExactCrashDevice.j0] at H
     by_cases c69 : x51_15 = true
     ·subst c69
      have H1 : (some false) = some r := by rw [if_pos rfl] at H; exact H
      clear H
      have H := H1
      clear H1
      exact absurd (H.trans (congrArg some HR_.out)) (by decide)
     ·replace c69 := Bool.eq_false_iff.mpr c69
      subst c69
      have H1 : ((laws_toDevice.f kj15 l0_0 l0_1).bind fun bt242 => ((laws_eqDevice.f kj15 t223 t226 bt242.1 bt242.2).bind fun t248 => (if t248 = true then ((laws_toBoolS.f kj15 l1).bind fun t249 => ((laws_eqBoolS.f kj15 t230 t249).bind fun t252 => (if t252 = true then ((laws_markDevice.f kj15 t223 t226 1).bind fun bt253 => ((laws_markBoolS.f kj15 t230 bt253.1).bind fun bt256 => (if bt256.1 < 0 then (laws_FnExactCrashDevice.j1 kj15 l1 t221 true l0_0 l0_1 t215 t218 t233 t236) else ((laws_eqDevice.f kj15 t233 t236 t215 t218).bind fun t258 => (if t258 = true then (laws_FnExactCrashDevice.j1 kj15 l1 t221 (t239 != t221) l0_0 l0_1 t215 t218 t233 t236) else (laws_FnExactCrashDevice.j1 kj15 l1 t221 true l0_0 l0_1 t215 t218 t233 t236)))))) else (some false)))) else (some false)))) = some r := by rw [if_neg (show ¬ (false = true) by decide)] at H; exact H
      clear H
      have H := H1
      clear H1
      replace H := Option.bind_eq_some_iff.mp H
      obtain ⟨⟨t242, t245⟩, A700, H⟩ := H
      replace H : ((laws_eqDevice.f kj15 t223 t226 t242 t245).bind fun t248 => (if t248 = true then ((laws_toBoolS.f kj15 l1).bind fun t249 => ((laws_eqBoolS.f kj15 t230 t249).bind fun t252 => (if t252 = true then ((laws_markDevice.f kj15 t223 t226 1).bind fun bt253 => ((laws_markBoolS.f kj15 t230 bt253.1).bind fun bt256 => (if bt256.1 < 0 then (laws_FnExactCrashDevice.j1 kj15 l1 t221 true l0_0 l0_1 t215 t218 t233 t236) else ((laws_eqDevice.f kj15 t233 t236 t215 t218).bind fun t258 => (if t258 = true then (laws_FnExactCrashDevice.j1 kj15 l1 t221 (t239 != t221) l0_0 l0_1 t215 t218 t233 t236) else (laws_FnExactCrashDevice.j1 kj15 l1 t221 true l0_0 l0_1 t215 t218 t233 t236)))))) else (some false)))) else (some false))) = some r := H
      have A70 := aM A700
      clear A700
      replace H := Option.bind_eq_some_iff.mp H
      obtain ⟨t248, A710, H⟩ := H
      replace H : (if t248 = true then ((laws_toBoolS.f kj15 l1).bind fun t249 => ((laws_eqBoolS.f kj15 t230 t249).bind fun t252 => (if t252 = true then ((laws_markDevice.f kj15 t223 t226 1).bind fun bt253 => ((laws_markBoolS.f kj15 t230 bt253.1).bind fun bt256 => (if bt256.1 < 0 then (laws_FnExactCrashDevice.j1 kj15 l1 t221 true l0_0 l0_1 t215 t218 t233 t236) else ((laws_eqDevice.f kj15 t233 t236 t215 t218).bind fun t258 => (if t258 = true then (laws_FnExactCrashDevice.j1 kj15 l1 t221 (t239 != t221) l0_0 l0_1 t215 t218 t233 t236) else (laws_FnExactCrashDevice.j1 kj15 l1 t221 true l0_0 l0_1 t215 t218 t233 t236)))))) else (some false)))) else (some false)) = some r := H
      have A71 := aM A710
      clear A710
      by_cases c72 : t248 = true
      ·subst c72
       have H1 : ((laws_toBoolS.f kj15 l1).bind fun t249 => ((laws_eqBoolS.f kj15 t230 t249).bind fun t252 => (if t252 = true then ((laws_markDevice.f kj15 t223 t226 1).bind fun bt253 => ((laws_markBoolS.f kj15 t230 bt253.1).bind fun bt256 => (if bt256.1 < 0 then (laws_FnExactCrashDevice.j1 kj15 l1 t221 true l0_0 l0_1 t215 t218 t233 t236) else ((laws_eqDevice.f kj15 t233 t236 t215 t218).bind fun t258 => (if t258 = true then (laws_FnExactCrashDevice.j1 kj15 l1 t221 (t239 != t221) l0_0 l0_1 t215 t218 t233 t236) else (laws_FnExactCrashDevice.j1 kj15 l1 t221 true l0_0 l0_1 t215 t218 t233 t236)))))) else (some false)))) = some r := by rw [if_pos rfl] at H; exact H
       clear H
       have H := H1
       clear H1
       replace H := Option.bind_eq_some_iff.mp H
       obtain ⟨t249, A730, H⟩ := H
       replace H : ((laws_eqBoolS.f kj15 t230 t249).bind fun t252 => (if t252 = true then ((laws_markDevice.f kj15 t223 t226 1).bind fun bt253 => ((laws_markBoolS.f kj15 t230 bt253.1).bind fun bt256 => (if bt256.1 < 0 then (laws_FnExactCrashDevice.j1 kj15 l1 t221 true l0_0 l0_1 t215 t218 t233 t236) else ((laws_eqDevice.f kj15 t233 t236 t215 t218).bind fun t258 => (if t258 = true then (laws_FnExactCrashDevice.j1 kj15 l1 t221 (t239 != t221) l0_0 l0_1 t215 t218 t233 t236) else (laws_FnExactCrashDevice.j1 kj15 l1 t221 true l0_0 l0_1 t215 t218 t233 t236)))))) else (some false))) = some r := H
       have A73 := aM A730
       clear A730
       replace H := Option.bind_eq_some_iff.mp H
       obtain ⟨t252, A740, H⟩ := H
       replace H : (if t252 = true then ((laws_markDevice.f kj15 t223 t226 1).bind fun bt253 => ((laws_markBoolS.f kj15 t230 bt253.1).bind fun bt256 => (if bt256.1 < 0 then (laws_FnExactCrashDevice.j1 kj15 l1 t221 true l0_0 l0_1 t215 t218 t233 t236) else ((laws_eqDevice.f kj15 t233 t236 t215 t218).bind fun t258 => (if t258 = true then (laws_FnExactCrashDevice.j1 kj15 l1 t221 (t239 != t221) l0_0 l0_1 t215 t218 t233 t236) else (laws_FnExactCrashDevice.j1 kj15 l1 t221 true l0_0 l0_1 t215 t218 t233 t236)))))) else (some false)) = some r := H
       have A74 := aM A740
       clear A740
       by_cases c75 : t252 = true
       ·subst c75
        have H1 : ((laws_markDevice.f kj15 t223 t226 1).bind fun bt253 => ((laws_markBoolS.f kj15 t230 bt253.1).bind fun bt256 => (if bt256.1 < 0 then (laws_FnExactCrashDevice.j1 kj15 l1 t221 true l0_0 l0_1 t215 t218 t233 t236) else ((laws_eqDevice.f kj15 t233 t236 t215 t218).bind fun t258 => (if t258 = true then (laws_FnExactCrashDevice.j1 kj15 l1 t221 (t239 != t221) l0_0 l0_1 t215 t218 t233 t236) else (laws_FnExactCrashDevice.j1 kj15 l1 t221 true l0_0 l0_1 t215 t218 t233 t236)))))) = some r := by rw [if_pos rfl] at H; exact H
        clear H
        have H := H1
        clear H1
        replace H := Option.bind_eq_some_iff.mp H
        obtain ⟨⟨t253, t254, t255⟩, A760, H⟩ := H
        replace H : ((laws_markBoolS.f kj15 t230 t253).bind fun bt256 => (if bt256.1 < 0 then (laws_FnExactCrashDevice.j1 kj15 l1 t221 true l0_0 l0_1 t215 t218 t233 t236) else ((laws_eqDevice.f kj15 t233 t236 t215 t218).bind fun t258 => (if t258 = true then (laws_FnExactCrashDevice.j1 kj15 l1 t221 (t239 != t221) l0_0 l0_1 t215 t218 t233 t236) else (laws_FnExactCrashDevice.j1 kj15 l1 t221 true l0_0 l0_1 t215 t218 t233 t236))))) = some r := H
        have A76 := aM A760
        clear A760
        replace H := Option.bind_eq_some_iff.mp H
        obtain ⟨⟨t256, t257⟩, A770, H⟩ := H
        replace H : (if t256 < 0 then (laws_FnExactCrashDevice.j1 kj15 l1 t221 true l0_0 l0_1 t215 t218 t233 t236) else ((laws_eqDevice.f kj15 t233 t236 t215 t218).bind fun t258 => (if t258 = true then (laws_FnExactCrashDevice.j1 kj15 l1 t221 (t239 != t221) l0_0 l0_1 t215 t218 t233 t236) else (laws_FnExactCrashDevice.j1 kj15 l1 t221 true l0_0 l0_1 t215 t218 t233 t236)))) = some r := H
        have A77 := aM A770
        clear A770
        have HC78 := aM H
        clear H
        try go_wp2
        have n0_ := aM (xD HO_9.out)
        have n1_ := aM (xD HO_223000.out)
        have n2_ := aM (xD HO_223001.out)
        have n3_ := aM (xD HO_230000.out)
        have n4_ := aM (xD HO_230001.out)
        have n5_ := aM (xD HO_241000.out)
        have n6_ := aM (xD HO_241001.out)
        have n7_ := aM (yD BK204.out)
        have n8_ := aM (yD BK222.out)
        have n9_ := aM (yD BK229.out)
        have n10_ := aM (yD BK240.out)
        have n11_ := aM (zD HB.out)
        clear HO_9
        clear HO_223000
        clear HO_223001
        clear HO_230000
        clear HO_230001
        clear HO_241000
        clear HO_241001
        clear BK204
        clear BK222
        clear BK229
        clear BK240
        clear HB
        have HO_9 := n0_
        have HO_223000 := n1_
        have HO_223001 := n2_
        have HO_230000 := n3_
        have HO_230001 := n4_
        have HO_241000 := n5_
        have HO_241001 := n6_
        have BK204 := n7_
        have BK222 := n8_
        have BK229 := n9_
        have BK240 := n10_
        have HB := n11_
        clear n0_ n1_ n2_ n3_ n4_ n5_ n6_ n7_ n8_ n9_ n10_ n11_
        refine start_ (n := 5) (S := fun w' => w'.cell? ⟨gb229, 0, none⟩ = some (.slice Ao35 t223.length co35) ∧ w'.cell? ⟨gb229, 1, none⟩ = some (.slice Ao39 t226.length co39) ∧ w'.cell? ⟨gb204, 0, none⟩ = some (.slice A0_0 l0_0.length c0_0) ∧ w'.cell? ⟨gb204, 1, none⟩ = some (.slice A0_1 l0_1.length c0_1)) (ds := []) #[false, false, false, false, false] (by kernel_rfl) rfl rfl ⟨(yC BK229.out 0).trans rfl, (yC BK229.out 1).trans rfl, (yC BK204.out 0).trans rfl, (yC BK204.out 1).trans rfl⟩ (fun hHeld => ?_)
        generalize wc.drew = w79 at HO_9 HO_223000 HO_223001 HO_230000 HO_230001 HO_241000 HO_241001 BK204 BK222 BK229 BK240 HB hHeld ⊢
        refine take_ (i := 0) (N := some 52) (v := ?_) (a' := ?_) #[true, false, false, false, false] rfl rfl (by kernel_rfl) (fun _ _ _ h => h) (Or.inl ⟨by rfl, ?_⟩) hHeld ?_ ?_
        rotate_left
        ·rintro w' ⟨s0, s1, s2, s3⟩
         go_simp
         with_reducible rfl
        rotate_left
        ·simp only [Act.put, List.setIfInBounds_toArray, List.set_cons_zero, List.set_cons_succ, i64_w, i32_w]
         rfl
        refine take_ (i := 1) (N := some 53) (v := ?_) (a' := ?_) #[true, true, false, false, false] rfl rfl (by kernel_rfl) (fun _ _ _ h => h) (Or.inl ⟨by rfl, ?_⟩) hHeld ?_ ?_
        rotate_left
        ·rintro w' ⟨s0, s1, s2, s3⟩
         go_simp
         with_reducible rfl
        rotate_left
        ·simp only [Act.put, List.setIfInBounds_toArray, List.set_cons_zero, List.set_cons_succ, i64_w, i32_w]
         rfl
        refine one_ (i := 2) (N := some 54) #[true, true, true, false, false] rfl rfl (by kernel_rfl) (by decide) (fun K hK => ?_)
        refine goes_ Try.func15 (by kernel_rfl) rfl #[.agg #[.slice A0_0 l0_0.length c0_0, .slice A0_1 l0_1.length c0_1]] (by rfl) rfl rfl (by (try simp only [List.map_toArray, List.map_cons, List.map_nil]); first | done | rfl | (simp only [List.length_drop, List.length_take]; rfl)) ?_
        with_reducible refine (laws_toDevice.calls kj15 _ _ l0_0 _ _ l0_1 t242 t245 _ ?side1 ?side2 ?side3 ?side4 A70.out).mono ?_
        (case side1 => repeat (first | exact (cB HR0_0.out HB.out) | (with_reducible refine cA ?_ _) | (with_reducible refine cN ?_ _) | (with_reducible refine cD ?_)))
        (case side2 => exact HC0_0.out)
        (case side3 => repeat (first | exact (cB HR0_1.out HB.out) | (with_reducible refine cA ?_ _) | (with_reducible refine cN ?_ _) | (with_reducible refine cD ?_)))
        (case side4 => exact HC0_1.out)
        rintro e w80 ⟨v243, v246, rfl, ho0, ho1, hb⟩
        refine ⟨_, rfl, ?_⟩
        have n0_ := aM (xB (by (with_reducible repeat (first | apply xA | apply xN | apply xD)); exact HO_9.out) hb)
        have n1_ := aM (Kd.R_elder' (by (with_reducible repeat (first | apply xA | apply xN | apply xD)); exact HO_223000.out) (Kd.R_base ho0) hb)
        have n2_ := aM (Kd.R_elder' (by (with_reducible repeat (first | apply xA | apply xN | apply xD)); exact HO_223001.out) (Kd.R_base ho1) hb)
        have n3_ := aM (Kd.R_elder' (by (with_reducible repeat (first | apply xA | apply xN | apply xD)); exact HO_230000.out) (Kd.R_base ho0) hb)
        have n4_ := aM (Kd.R_elder' (by (with_reducible repeat (first | apply xA | apply xN | apply xD)); exact HO_230001.out) (Kd.R_base ho1) hb)
        have n5_ := aM (Kd.R_elder' (by (with_reducible repeat (first | apply xA | apply xN | apply xD)); exact HO_241000.out) (Kd.R_base ho0) hb)
        have n6_ := aM (Kd.R_elder' (by (with_reducible repeat (first | apply xA | apply xN | apply xD)); exact HO_241001.out) (Kd.R_base ho1) hb)
        have n7_ := aM (xL (Kd.R_new' (Kd.R_new' (Kd.R_new' ho0 (Kd.R_lt (by (with_reducible repeat (first | apply xA | apply xN | apply xD)); exact HO_223000.out))) (Kd.R_lt (by (with_reducible repeat (first | apply xA | apply xN | apply xD)); exact HO_230000.out))) (Kd.R_lt (by (with_reducible repeat (first | apply xA | apply xN | apply xD)); exact HO_241000.out))) (zZ (by repeat (first | (with_reducible first | exact HB.out | apply zA | apply zN | apply zD | refine zS ?_ GE204.out | refine zS ?_ GE222.out | refine zS ?_ GE229.out | refine zS ?_ GE240.out) | exact HB.out))))
        have n8_ := aM (xL (Kd.R_new' (Kd.R_new' (Kd.R_new' ho1 (Kd.R_lt (by (with_reducible repeat (first | apply xA | apply xN | apply xD)); exact HO_223001.out))) (Kd.R_lt (by (with_reducible repeat (first | apply xA | apply xN | apply xD)); exact HO_230001.out))) (Kd.R_lt (by (with_reducible repeat (first | apply xA | apply xN | apply xD)); exact HO_241001.out))) (zZ (by repeat (first | (with_reducible first | exact HB.out | apply zA | apply zN | apply zD | refine zS ?_ GE204.out | refine zS ?_ GE222.out | refine zS ?_ GE229.out | refine zS ?_ GE240.out) | exact HB.out))))
        have n9_ := aM (yB (g := gb204) (o := .cells #[.slice A0_0 l0_0.length c0_0, .slice A0_1 l0_1.length c0_1] 25 (0, 0)) (by (with_reducible repeat (first | refine yN ?_ _ | refine yD ?_ | refine yA ?_ _)); exact BK204.out) hb)
        have n10_ := aM (yB (g := gb222) (o := .cells #[.slice Ao28 t215.length co28, .slice Ao31 t218.length co31] 30 (0, 0)) (by (with_reducible repeat (first | refine yN ?_ _ | refine yD ?_ | refine yA ?_ _)); exact BK222.out) hb)
        have n11_ := aM (yB (g := gb229) (o := .cells #[.slice Ao35 t223.length co35, .slice Ao39 t226.length co39] 30 (0, 0)) (by (with_reducible repeat (first | refine yN ?_ _ | refine yD ?_ | refine yA ?_ _)); exact BK229.out) hb)
        have n12_ := aM (yB (g := gb240) (o := .cells #[.slice Ao45 t233.length co45, .slice Ao50 t236.length co50] 30 (0, 0)) (by (with_reducible repeat (first | refine yN ?_ _ | refine yD ?_ | refine yA ?_ _)); exact BK240.out) hb)
        have n13_ := aM (zT (by repeat (first | (with_reducible first | exact HB.out | apply zA | apply zN | apply zD | refine zS ?_ GE204.out | refine zS ?_ GE222.out | refine zS ?_ GE229.out | refine zS ?_ GE240.out) | exact HB.out)) hb)
        clear HO_9
        clear HO_223000
        clear HO_223001
        clear HO_230000
        clear HO_230001
        clear HO_241000
        clear HO_241001
        clear BK204
        clear BK222
        clear BK229
        clear BK240
        clear HB
        have HO_9 := n0_
        have HO_223000 := n1_
        have HO_223001 := n2_
        have HO_230000 := n3_
        have HO_230001 := n4_
        have HO_241000 := n5_
        have HO_241001 := n6_
        have HO244 := n7_
        have HO247 := n8_
        have BK204 := n9_
        have BK222 := n10_
        have BK229 := n11_
        have BK240 := n12_
        have HB := n13_
        clear n0_ n1_ n2_ n3_ n4_ n5_ n6_ n7_ n8_ n9_ n10_ n11_ n12_ n13_
        (try clear hb)
        (try clear hb2)
        (try clear hk)
        (try clear hi)
        (try clear ho0)
        (try clear ho1)
        obtain ⟨Ao81, co81, eo81⟩ := Kd.R_slice HO244.out
        (first | subst eo81 | (injection eo81 with f1_ f2_ f3_; have f4_ := f1_.symm; have f5_ := f3_.symm; clear f1_ f2_ f3_; subst f4_; subst f5_))
        obtain ⟨Ao82, co82, eo82⟩ := Kd.R_slice HO247.out
        (first | subst eo82 | (injection eo82 with f1_ f2_ f3_; have f4_ := f1_.symm; have f5_ := f3_.symm; clear f1_ f2_ f3_; subst f4_; subst f5_))
        refine hK.out _ _ ⟨(yC BK229.out 0).trans rfl, (yC BK229.out 1).trans rfl, (yC BK204.out 0).trans rfl, (yC BK204.out 1).trans rfl⟩ (fun hHeld => ?_)
        clear hK K
        refine norm_ (a' := ?_) ?_ ?_
        rotate_left
        ·show Act.put _ (some 54) _ = _
         simp only [Act.put, List.setIfInBounds_toArray, List.set_cons_zero, List.set_cons_succ, i64_w, i32_w]
         rfl
        refine one_ (i := 3) (N := some 55) #[true, true, true, true, false] rfl rfl (by kernel_rfl) (by decide) (fun K hK => ?_)
        refine goes_ Try.func17 (by kernel_rfl) rfl #[.agg #[.slice Ao35 t223.length co35, .slice Ao39 t226.length co39], .agg #[.slice Ao81 t242.length co81, .slice Ao82 t245.length co82]] (by rfl) rfl rfl (by (try simp only [List.map_toArray, List.map_cons, List.map_nil]); first | done | rfl | (simp only [List.length_drop, List.length_take]; rfl)) ?_
        with_reducible refine (laws_eqDevice.calls kj15 _ _ t223 _ _ t226 _ _ t242 _ _ t245 true _ ?side1 ?side2 ?side3 ?side4 ?side5 ?side6 ?side7 ?side8 A71.out).mono ?_
        (case side1 => repeat (first | exact (Kd.R_reads' HO_230000.out).2.2 | (with_reducible refine cA ?_ _) | (with_reducible refine cN ?_ _) | (with_reducible refine cD ?_)))
        (case side2 => exact (Kd.R_reads' HO_230000.out).2.1)
        (case side3 => repeat (first | exact (Kd.R_reads' HO_230001.out).2.2 | (with_reducible refine cA ?_ _) | (with_reducible refine cN ?_ _) | (with_reducible refine cD ?_)))
        (case side4 => exact (Kd.R_reads' HO_230001.out).2.1)
        (case side5 => repeat (first | exact (Kd.R_reads' HO244.out).2.2 | (with_reducible refine cA ?_ _) | (with_reducible refine cN ?_ _) | (with_reducible refine cD ?_)))
        (case side6 => exact (Kd.R_reads' HO244.out).2.1)
        (case side7 => repeat (first | exact (Kd.R_reads' HO247.out).2.2 | (with_reducible refine cA ?_ _) | (with_reducible refine cN ?_ _) | (with_reducible refine cD ?_)))
        (case side8 => exact (Kd.R_reads' HO247.out).2.1)
        rintro e w83 ⟨rfl, hb⟩
        refine ⟨_, rfl, ?_⟩
        have n0_ := aM (xB (by (with_reducible repeat (first | apply xA | apply xN | apply xD)); exact HO_9.out) hb)
        have n1_ := aM (xB (by (with_reducible repeat (first | apply xA | apply xN | apply xD)); exact HO_223000.out) hb)
        have n2_ := aM (xB (by (with_reducible repeat (first | apply xA | apply xN | apply xD)); exact HO_223001.out) hb)
        have n3_ := aM (xB (by (with_reducible repeat (first | apply xA | apply xN | apply xD)); exact HO_230000.out) hb)
        have n4_ := aM (xB (by (with_reducible repeat (first | apply xA | apply xN | apply xD)); exact HO_230001.out) hb)
        have n5_ := aM (xB (by (with_reducible repeat (first | apply xA | apply xN | apply xD)); exact HO_241000.out) hb)
        have n6_ := aM (xB (by (with_reducible repeat (first | apply xA | apply xN | apply xD)); exact HO_241001.out) hb)
        have n7_ := aM (xB (by (with_reducible repeat (first | apply xA | apply xN | apply xD)); exact HO244.out) hb)
        have n8_ := aM (xB (by (with_reducible repeat (first | apply xA | apply xN | apply xD)); exact HO247.out) hb)
        have n9_ := aM (yB (g := gb204) (o := .cells #[.slice A0_0 l0_0.length c0_0, .slice A0_1 l0_1.length c0_1] 25 (0, 0)) (by (with_reducible repeat (first | refine yN ?_ _ | refine yD ?_ | refine yA ?_ _)); exact BK204.out) hb)
        have n10_ := aM (yB (g := gb222) (o := .cells #[.slice Ao28 t215.length co28, .slice Ao31 t218.length co31] 30 (0, 0)) (by (with_reducible repeat (first | refine yN ?_ _ | refine yD ?_ | refine yA ?_ _)); exact BK222.out) hb)
        have n11_ := aM (yB (g := gb229) (o := .cells #[.slice Ao35 t223.length co35, .slice Ao39 t226.length co39] 30 (0, 0)) (by (with_reducible repeat (first | refine yN ?_ _ | refine yD ?_ | refine yA ?_ _)); exact BK229.out) hb)
        have n12_ := aM (yB (g := gb240) (o := .cells #[.slice Ao45 t233.length co45, .slice Ao50 t236.length co50] 30 (0, 0)) (by (with_reducible repeat (first | refine yN ?_ _ | refine yD ?_ | refine yA ?_ _)); exact BK240.out) hb)
        have n13_ := aM (zT (by repeat (first | (with_reducible first | exact HB.out | apply zA | apply zN | apply zD | refine zS ?_ GE204.out | refine zS ?_ GE222.out | refine zS ?_ GE229.out | refine zS ?_ GE240.out) | exact HB.out)) hb)
        clear HO_9
        clear HO_223000
        clear HO_223001
        clear HO_230000
        clear HO_230001
        clear HO_241000
        clear HO_241001
        clear HO244
        clear HO247
        clear BK204
        clear BK222
        clear BK229
        clear BK240
        clear HB
        have HO_9 := n0_
        have HO_223000 := n1_
        have HO_223001 := n2_
        have HO_230000 := n3_
        have HO_230001 := n4_
        have HO_241000 := n5_
        have HO_241001 := n6_
        have HO244 := n7_
        have HO247 := n8_
        have BK204 := n9_
        have BK222 := n10_
        have BK229 := n11_
        have BK240 := n12_
        have HB := n13_
        clear n0_ n1_ n2_ n3_ n4_ n5_ n6_ n7_ n8_ n9_ n10_ n11_ n12_ n13_
        (try clear hb)
        (try clear hb2)
        (try clear hk)
        (try clear hi)
        refine hK.out _ _ ⟨(yC BK229.out 0).trans rfl, (yC BK229.out 1).trans rfl, (yC BK204.out 0).trans rfl, (yC BK204.out 1).trans rfl⟩ (fun hHeld => ?_)
        clear hK K
        refine norm_ (a' := ?_) ?_ ?_
        rotate_left
        ·show Act.put _ (some 55) _ = _
         simp only [Act.put, List.setIfInBounds_toArray, List.set_cons_zero, List.set_cons_succ, i64_w, i32_w]
         rfl
        refine pure_ (i := 4) (N := some 56) (v := ?_) (a' := ?_) #[true, true, true, true, true] rfl rfl (by kernel_rfl) (fun _ _ _ h => h) (Or.inl ⟨by rfl, ?_⟩) ?_ ?_
        rotate_left
        ·intro w'
         go_simp
         with_reducible rfl
        rotate_left
        ·simp only [Act.put, List.setIfInBounds_toArray, List.set_cons_zero, List.set_cons_succ, i64_w, i32_w]
         rfl
        refine done_ (by kernel_rfl) ?_
        go_upto_region 20 with (first | ((with_reducible refine gate_callee (f := 31) rfl ?_); refine goesL_ (some 59) rfl rfl Try.func31 (by kernel_rfl) rfl #[.slice A1 l1.length c1] rfl (by (try simp only [List.map_toArray, List.map_cons, List.map_nil]); first | done | rfl | (simp only [List.length_drop, List.length_take]; rfl)) ?_; (with_reducible refine (laws_toBoolS.calls kj15 _ _ l1 t249 _ ?side1 ?side2 A73.out).mono ?_); (case side1 => repeat (first | exact (cB HR1.out HB.out) | (with_reducible refine cA ?_ _) | (with_reducible refine cN ?_ _) | (with_reducible refine cD ?_))); (case side2 => exact HC1.out); rintro e w84 ⟨v250, rfl, ho0, hb⟩; refine ⟨_, rfl, ?_⟩; have n0_ := aM (Kd.R_elder' (by (with_reducible repeat (first | apply xA | apply xN | apply xD)); exact HO_9.out) (Kd.R_base ho0) hb); have n1_ := aM (xB (by (with_reducible repeat (first | apply xA | apply xN | apply xD)); exact HO_223000.out) hb); have n2_ := aM (xB (by (with_reducible repeat (first | apply xA | apply xN | apply xD)); exact HO_223001.out) hb); have n3_ := aM (xB (by (with_reducible repeat (first | apply xA | apply xN | apply xD)); exact HO_230000.out) hb); have n4_ := aM (xB (by (with_reducible repeat (first | apply xA | apply xN | apply xD)); exact HO_230001.out) hb); have n5_ := aM (xB (by (with_reducible repeat (first | apply xA | apply xN | apply xD)); exact HO_241000.out) hb); have n6_ := aM (xB (by (with_reducible repeat (first | apply xA | apply xN | apply xD)); exact HO_241001.out) hb); have n7_ := aM (xB (by (with_reducible repeat (first | apply xA | apply xN | apply xD)); exact HO244.out) hb); have n8_ := aM (xB (by (with_reducible repeat (first | apply xA | apply xN | apply xD)); exact HO247.out) hb); have n9_ := aM (xL (Kd.R_new' ho0 (Kd.R_lt (by (with_reducible repeat (first | apply xA | apply xN | apply xD)); exact HO_9.out))) (zZ (by repeat (first | (with_reducible first | exact HB.out | apply zA | apply zN | apply zD | refine zS ?_ GE204.out | refine zS ?_ GE222.out | refine zS ?_ GE229.out | refine zS ?_ GE240.out) | exact HB.out)))); have n10_ := aM (yB (g := gb204) (o := .cells #[.slice A0_0 l0_0.length c0_0, .slice A0_1 l0_1.length c0_1] 25 (0, 0)) (by (with_reducible repeat (first | refine yN ?_ _ | refine yD ?_ | refine yA ?_ _)); exact BK204.out) hb); have n11_ := aM (yB (g := gb222) (o := .cells #[.slice Ao28 t215.length co28, .slice Ao31 t218.length co31] 30 (0, 0)) (by (with_reducible repeat (first | refine yN ?_ _ | refine yD ?_ | refine yA ?_ _)); exact BK222.out) hb); have n12_ := aM (yB (g := gb229) (o := .cells #[.slice Ao35 t223.length co35, .slice Ao39 t226.length co39] 30 (0, 0)) (by (with_reducible repeat (first | refine yN ?_ _ | refine yD ?_ | refine yA ?_ _)); exact BK229.out) hb); have n13_ := aM (yB (g := gb240) (o := .cells #[.slice Ao45 t233.length co45, .slice Ao50 t236.length co50] 30 (0, 0)) (by (with_reducible repeat (first | refine yN ?_ _ | refine yD ?_ | refine yA ?_ _)); exact BK240.out) hb); have n14_ := aM (zT (by repeat (first | (with_reducible first | exact HB.out | apply zA | apply zN | apply zD | refine zS ?_ GE204.out | refine zS ?_ GE222.out | refine zS ?_ GE229.out | refine zS ?_ GE240.out) | exact HB.out)) hb); clear HO_9; clear HO_223000; clear HO_223001; clear HO_230000; clear HO_230001; clear HO_241000; clear HO_241001; clear HO244; clear HO247; clear BK204; clear BK222; clear BK229; clear BK240; clear HB; have HO_9 := n0_; have HO_223000 := n1_; have HO_223001 := n2_; have HO_230000 := n3_; have HO_230001 := n4_; have HO_241000 := n5_; have HO_241001 := n6_; have HO244 := n7_; have HO247 := n8_; have HO251 := n9_; have BK204 := n10_; have BK222 := n11_; have BK229 := n12_; have BK240 := n13_; have HB := n14_; clear n0_ n1_ n2_ n3_ n4_ n5_ n6_ n7_ n8_ n9_ n10_ n11_ n12_ n13_ n14_; (try clear hb); (try clear hb2); (try clear hk); (try clear hi); (try clear ho0); obtain ⟨Ao85, co85, eo85⟩ := Kd.R_slice HO251.out; subst eo85) | ((with_reducible refine gate_callee (f := 33) rfl ?_); refine goesL_ (some 60) rfl rfl Try.func33 (by kernel_rfl) rfl #[.slice Ao42 t230.length co42, .slice Ao85 t249.length co85] rfl (by (try simp only [List.map_toArray, List.map_cons, List.map_nil]); first | done | rfl | (simp only [List.length_drop, List.length_take]; rfl)) ?_; (with_reducible refine (laws_eqBoolS.calls kj15 _ _ t230 _ _ t249 true _ ?side1 ?side2 ?side3 ?side4 A74.out).mono ?_); (case side1 => repeat (first | exact (Kd.R_reads' HO_9.out).2.2 | (with_reducible refine cA ?_ _) | (with_reducible refine cN ?_ _) | (with_reducible refine cD ?_))); (case side2 => exact (Kd.R_reads' HO_9.out).2.1); (case side3 => repeat (first | exact (Kd.R_reads' HO251.out).2.2 | (with_reducible refine cA ?_ _) | (with_reducible refine cN ?_ _) | (with_reducible refine cD ?_))); (case side4 => exact (Kd.R_reads' HO251.out).2.1); rintro e w' ⟨rfl, ⟨nd, rfl⟩⟩; refine ⟨_, rfl, ?_⟩; have hnb86 := NB229_204.out; have hnc86 := NB204_229.out; have hnb87 := NB229_222.out; have hnc87 := NB222_229.out; have hnb88 := NB229_240.out; have hnc88 := NB240_229.out; have hcz89_0 : w84.cell? ⟨gb229, 0, none⟩ = some (.slice Ao35 t223.length co35) := (yC BK229.out 0).trans rfl; have hcz89_1 : w84.cell? ⟨gb229, 1, none⟩ = some (.slice Ao39 t226.length co39) := (yC BK229.out 1).trans rfl; have hfz89_0 := yZ BK229.out 0; have hfz89_1 := yZ BK229.out 1) | ((with_reducible refine gate_callee (f := 26) rfl ?_); refine goesL_ (some 64) rfl rfl Try.func26 (by kernel_rfl) rfl #[.agg #[.slice Ao35 t223.length co35, .slice Ao39 t226.length co39], .int .i64 1] rfl (by (try simp only [List.map_toArray, List.map_cons, List.map_nil]); first | done | rfl | (simp only [List.length_drop, List.length_take]; rfl)) ?_; (with_reducible refine (laws_markDevice.calls kj15 (fun k_ => some k_ = (.slice Ao35 t223.length co35 : Value).ownBlock) (.slice Ao35 t223.length co35) t223 (fun k_ => some k_ = (.slice Ao39 t226.length co39 : Value).ownBlock) (.slice Ao39 t226.length co39) t226 1 t253 t254 t255 w _ ?side1 ?side2 ?side3 A76.out).mono ?_); (case side1 => repeat (first | (with_reducible first | exact HB.out | apply zA | apply zN | apply zD | refine zS ?_ GE204.out | refine zS ?_ GE222.out | refine zS ?_ GE229.out | refine zS ?_ GE240.out) | exact HB.out)); (case side2 => exact Kd.R_tight rfl HO_230000.out); (case side3 => exact Kd.R_tight rfl HO_230001.out); rintro e w90 ⟨rfl, hy0, hy1, hb, hkp⟩; refine ⟨_, rfl, ?_⟩; have n0_ := aM (xM (ok' := fun k_ => some k_ ≠ (.slice Ao85 t249.length co85 : Value).ownBlock) (Kd.R_keptB ((Kd.R_apart' (Kd.R_apart' HO_9.out (Kd.R_typed HO_230000.out) (by decide)) (Kd.R_typed HO_230001.out) (by decide))) hkp (fun k_ hk_ hs_ => Or.elim hs_ (fun e_ => (hk_.1.2) e_) (fun e_ => (hk_.2) e_))) (fun k_ hk_ => hk_.1.1.1.2)); have n1_ := aM (xM (ok' := fun k_ => some k_ ≠ (.slice Ao35 t223.length co35 : Value).ownBlock ∧ some k_ ≠ (.slice Ao45 t233.length co45 : Value).ownBlock ∧ some k_ ≠ (.slice Ao81 t242.length co81 : Value).ownBlock) (Kd.R_keptB ((Kd.R_apart' HO_223000.out (Kd.R_typed HO_230001.out) (by decide))) hkp (fun k_ hk_ hs_ => Or.elim hs_ (fun e_ => (hk_.1.1.1) e_) (fun e_ => (hk_.2) e_))) (fun k_ hk_ => ⟨hk_.1.1.1.1, hk_.1.1.1.2, hk_.1.1.2⟩)); have n2_ := aM (xM (ok' := fun k_ => some k_ ≠ (.slice Ao39 t226.length co39 : Value).ownBlock ∧ some k_ ≠ (.slice Ao50 t236.length co50 : Value).ownBlock ∧ some k_ ≠ (.slice Ao82 t245.length co82 : Value).ownBlock) (Kd.R_keptB ((Kd.R_apart' HO_223001.out (Kd.R_typed HO_230000.out) (by decide))) hkp (fun k_ hk_ hs_ => Or.elim hs_ (fun e_ => (hk_.2) e_) (fun e_ => (hk_.1.1.1) e_))) (fun k_ hk_ => ⟨hk_.1.1.1.1, hk_.1.1.1.2, hk_.1.1.2⟩)); have n3_ := aM (Kd.R_reok rfl hy0 (fun k_ e_ => HO_230000.out.1 k_ e_)); have n4_ := aM (Kd.R_reok rfl hy1 (fun k_ e_ => HO_230001.out.1 k_ e_)); have n5_ := aM (xM (ok' := fun k_ => some k_ ≠ (.slice Ao28 t215.length co28 : Value).ownBlock ∧ some k_ ≠ (.slice Ao35 t223.length co35 : Value).ownBlock ∧ some k_ ≠ (.slice Ao81 t242.length co81 : Value).ownBlock) (Kd.R_keptB ((Kd.R_apart' HO_241000.out (Kd.R_typed HO_230001.out) (by decide))) hkp (fun k_ hk_ hs_ => Or.elim hs_ (fun e_ => (hk_.1.1.2) e_) (fun e_ => (hk_.2) e_))) (fun k_ hk_ => ⟨hk_.1.1.1.1, hk_.1.1.1.2, hk_.1.1.2⟩)); have n6_ := aM (xM (ok' := fun k_ => some k_ ≠ (.slice Ao31 t218.length co31 : Value).ownBlock ∧ some k_ ≠ (.slice Ao39 t226.length co39 : Value).ownBlock ∧ some k_ ≠ (.slice Ao82 t245.length co82 : Value).ownBlock) (Kd.R_keptB ((Kd.R_apart' HO_241001.out (Kd.R_typed HO_230000.out) (by decide))) hkp (fun k_ hk_ hs_ => Or.elim hs_ (fun e_ => (hk_.2) e_) (fun e_ => (hk_.1.1.2) e_))) (fun k_ hk_ => ⟨hk_.1.1.1.1, hk_.1.1.1.2, hk_.1.1.2⟩)); have n7_ := aM (blk_kept BK204.out hkp (fun hs_ => Or.elim hs_ (fun e_ => (fun e_ => (Kd.R_ne HO_230000.out BK204.out (by decide)) e_) e_) (fun e_ => (fun e_ => (Kd.R_ne HO_230001.out BK204.out (by decide)) e_) e_))); have n8_ := aM (blk_kept BK222.out hkp (fun hs_ => Or.elim hs_ (fun e_ => (fun e_ => (Kd.R_ne HO_230000.out BK222.out (by decide)) e_) e_) (fun e_ => (fun e_ => (Kd.R_ne HO_230001.out BK222.out (by decide)) e_) e_))); have n9_ := aM (blk_kept BK229.out hkp (fun hs_ => Or.elim hs_ (fun e_ => (fun e_ => (Kd.R_ne HO_230000.out BK229.out (by decide)) e_) e_) (fun e_ => (fun e_ => (Kd.R_ne HO_230001.out BK229.out (by decide)) e_) e_))); have n10_ := aM (blk_kept BK240.out hkp (fun hs_ => Or.elim hs_ (fun e_ => (fun e_ => (Kd.R_ne HO_230000.out BK240.out (by decide)) e_) e_) (fun e_ => (fun e_ => (Kd.R_ne HO_230001.out BK240.out (by decide)) e_) e_))); have n11_ := aM (xM (ok' := fun k_ => some k_ ≠ (.slice Ao28 t215.length co28 : Value).ownBlock ∧ some k_ ≠ (.slice Ao35 t223.length co35 : Value).ownBlock ∧ some k_ ≠ (.slice Ao45 t233.length co45 : Value).ownBlock) (Kd.R_keptB ((Kd.R_apart' HO244.out (Kd.R_typed HO_230001.out) (by decide))) hkp (fun k_ hk_ hs_ => Or.elim hs_ (fun e_ => (hk_.1.1.2) e_) (fun e_ => (hk_.2) e_))) (fun k_ hk_ => ⟨hk_.1.1.1.1.2, hk_.1.1.1.2, hk_.1.1.2⟩)); have n12_ := aM (xM (ok' := fun k_ => some k_ ≠ (.slice Ao31 t218.length co31 : Value).ownBlock ∧ some k_ ≠ (.slice Ao39 t226.length co39 : Value).ownBlock ∧ some k_ ≠ (.slice Ao50 t236.length co50 : Value).ownBlock) (Kd.R_keptB ((Kd.R_apart' HO247.out (Kd.R_typed HO_230000.out) (by decide))) hkp (fun k_ hk_ hs_ => Or.elim hs_ (fun e_ => (hk_.2) e_) (fun e_ => (hk_.1.1.2) e_))) (fun k_ hk_ => ⟨hk_.1.1.1.1.2, hk_.1.1.1.2, hk_.1.1.2⟩)); have n13_ := aM (xM (ok' := fun k_ => some k_ ≠ (.slice Ao42 t230.length co42 : Value).ownBlock) (Kd.R_keptB ((Kd.R_apart' (Kd.R_apart' HO251.out (Kd.R_typed HO_230000.out) (by decide)) (Kd.R_typed HO_230001.out) (by decide))) hkp (fun k_ hk_ hs_ => Or.elim hs_ (fun e_ => (hk_.1.2) e_) (fun e_ => (hk_.2) e_))) (fun k_ hk_ => hk_.1.1.1.2)); have n14_ := aM (hb); clear HO_9; clear HO_223000; clear HO_223001; clear HO_230000; clear HO_230001; clear HO_241000; clear HO_241001; clear BK204; clear BK222; clear BK229; clear BK240; clear HO244; clear HO247; clear HO251; clear HB; have HO_9 := n0_; have HO_223000 := n1_; have HO_223001 := n2_; have HO_230000 := n3_; have HO_230001 := n4_; have HO_241000 := n5_; have HO_241001 := n6_; have BK204 := n7_; have BK222 := n8_; have BK229 := n9_; have BK240 := n10_; have HO244 := n11_; have HO247 := n12_; have HO251 := n13_; have HB := n14_; clear n0_ n1_ n2_ n3_ n4_ n5_ n6_ n7_ n8_ n9_ n10_ n11_ n12_ n13_ n14_; (try clear hb); (try clear hkp); (try clear hy0); (try clear hy1)) | ((with_reducible refine gate_callee (f := 34) rfl ?_); refine goesL_ (some 67) rfl rfl Try.func34 (by kernel_rfl) rfl #[.slice Ao42 t230.length co42, .int .i64 t253] rfl (by (try simp only [List.map_toArray, List.map_cons, List.map_nil]); first | done | rfl | (simp only [List.length_drop, List.length_take]; rfl)) ?_; (with_reducible refine (laws_markBoolS.calls kj15 (fun k_ => some k_ = (.slice Ao42 t230.length co42 : Value).ownBlock) (.slice Ao42 t230.length co42) t230 t253 t256 t257 w _ ?side1 ?side2 A77.out).mono ?_); (case side1 => repeat (first | (with_reducible first | exact HB.out | apply zA | apply zN | apply zD | refine zS ?_ GE204.out | refine zS ?_ GE222.out | refine zS ?_ GE229.out | refine zS ?_ GE240.out) | exact HB.out)); (case side2 => exact Kd.R_tight rfl HO_9.out); rintro e w91 ⟨rfl, hy0, hb, hkp⟩; refine ⟨_, rfl, ?_⟩; have n0_ := aM (Kd.R_reok rfl hy0 (fun k_ e_ => HO_9.out.1 k_ e_)); have n1_ := aM (xM (ok' := fun k_ => some k_ ≠ (.slice Ao35 t223.length co35 : Value).ownBlock ∧ some k_ ≠ (.slice Ao45 t233.length co45 : Value).ownBlock ∧ some k_ ≠ (.slice Ao81 t242.length co81 : Value).ownBlock) (Kd.R_keptB ((Kd.R_apart' HO_223000.out (Kd.R_typed HO_9.out) (by decide))) hkp (fun k_ hk_ hs_ => (hk_.2) hs_)) (fun k_ hk_ => ⟨hk_.1.1.1, hk_.1.1.2.1, hk_.1.1.2.2⟩)); have n2_ := aM (xM (ok' := fun k_ => some k_ ≠ (.slice Ao39 t226.length co39 : Value).ownBlock ∧ some k_ ≠ (.slice Ao50 t236.length co50 : Value).ownBlock ∧ some k_ ≠ (.slice Ao82 t245.length co82 : Value).ownBlock) (Kd.R_keptB ((Kd.R_apart' HO_223001.out (Kd.R_typed HO_9.out) (by decide))) hkp (fun k_ hk_ hs_ => (hk_.2) hs_)) (fun k_ hk_ => ⟨hk_.1.1.1, hk_.1.1.2.1, hk_.1.1.2.2⟩)); have n3_ := aM (xM (ok' := fun k_ => some k_ ≠ (.slice Ao28 t215.length co28 : Value).ownBlock ∧ some k_ ≠ (.slice Ao45 t233.length co45 : Value).ownBlock ∧ some k_ ≠ (.slice Ao81 t242.length co81 : Value).ownBlock) (Kd.R_keptB ((Kd.R_apart' HO_230000.out (Kd.R_typed HO_9.out) (by decide))) hkp (fun k_ hk_ hs_ => (hk_.2) hs_)) (fun k_ hk_ => ⟨hk_.1.1.1.1, hk_.1.1.1.2, hk_.1.1.2⟩)); have n4_ := aM (xM (ok' := fun k_ => some k_ ≠ (.slice Ao31 t218.length co31 : Value).ownBlock ∧ some k_ ≠ (.slice Ao50 t236.length co50 : Value).ownBlock ∧ some k_ ≠ (.slice Ao82 t245.length co82 : Value).ownBlock) (Kd.R_keptB ((Kd.R_apart' HO_230001.out (Kd.R_typed HO_9.out) (by decide))) hkp (fun k_ hk_ hs_ => (hk_.2) hs_)) (fun k_ hk_ => ⟨hk_.1.1.1.1, hk_.1.1.1.2, hk_.1.1.2⟩)); have n5_ := aM (xM (ok' := fun k_ => some k_ ≠ (.slice Ao28 t215.length co28 : Value).ownBlock ∧ some k_ ≠ (.slice Ao35 t223.length co35 : Value).ownBlock ∧ some k_ ≠ (.slice Ao81 t242.length co81 : Value).ownBlock) (Kd.R_keptB ((Kd.R_apart' HO_241000.out (Kd.R_typed HO_9.out) (by decide))) hkp (fun k_ hk_ hs_ => (hk_.2) hs_)) (fun k_ hk_ => ⟨hk_.1.1.1, hk_.1.1.2.1, hk_.1.1.2.2⟩)); have n6_ := aM (xM (ok' := fun k_ => some k_ ≠ (.slice Ao31 t218.length co31 : Value).ownBlock ∧ some k_ ≠ (.slice Ao39 t226.length co39 : Value).ownBlock ∧ some k_ ≠ (.slice Ao82 t245.length co82 : Value).ownBlock) (Kd.R_keptB ((Kd.R_apart' HO_241001.out (Kd.R_typed HO_9.out) (by decide))) hkp (fun k_ hk_ hs_ => (hk_.2) hs_)) (fun k_ hk_ => ⟨hk_.1.1.1, hk_.1.1.2.1, hk_.1.1.2.2⟩)); have n7_ := aM (blk_kept BK204.out hkp (fun hs_ => (fun e_ => (Kd.R_ne HO_9.out BK204.out (by decide)) e_) hs_)); have n8_ := aM (blk_kept BK222.out hkp (fun hs_ => (fun e_ => (Kd.R_ne HO_9.out BK222.out (by decide)) e_) hs_)); have n9_ := aM (blk_kept BK229.out hkp (fun hs_ => (fun e_ => (Kd.R_ne HO_9.out BK229.out (by decide)) e_) hs_)); have n10_ := aM (blk_kept BK240.out hkp (fun hs_ => (fun e_ => (Kd.R_ne HO_9.out BK240.out (by decide)) e_) hs_)); have n11_ := aM (xM (ok' := fun k_ => some k_ ≠ (.slice Ao28 t215.length co28 : Value).ownBlock ∧ some k_ ≠ (.slice Ao35 t223.length co35 : Value).ownBlock ∧ some k_ ≠ (.slice Ao45 t233.length co45 : Value).ownBlock) (Kd.R_keptB ((Kd.R_apart' HO244.out (Kd.R_typed HO_9.out) (by decide))) hkp (fun k_ hk_ hs_ => (hk_.2) hs_)) (fun k_ hk_ => ⟨hk_.1.1.1, hk_.1.1.2.1, hk_.1.1.2.2⟩)); have n12_ := aM (xM (ok' := fun k_ => some k_ ≠ (.slice Ao31 t218.length co31 : Value).ownBlock ∧ some k_ ≠ (.slice Ao39 t226.length co39 : Value).ownBlock ∧ some k_ ≠ (.slice Ao50 t236.length co50 : Value).ownBlock) (Kd.R_keptB ((Kd.R_apart' HO247.out (Kd.R_typed HO_9.out) (by decide))) hkp (fun k_ hk_ hs_ => (hk_.2) hs_)) (fun k_ hk_ => ⟨hk_.1.1.1, hk_.1.1.2.1, hk_.1.1.2.2⟩)); have n13_ := aM (xM (ok' := fun k_ => some k_ ≠ (.slice Ao42 t230.length co42 : Value).ownBlock) (Kd.R_keptB (HO251.out) hkp (fun k_ hk_ hs_ => (hk_) hs_)) (fun k_ hk_ => hk_.1)); have n14_ := aM (hb); clear HO_9; clear HO_223000; clear HO_223001; clear HO_230000; clear HO_230001; clear HO_241000; clear HO_241001; clear BK204; clear BK222; clear BK229; clear BK240; clear HO244; clear HO247; clear HO251; clear HB; have HO_9 := n0_; have HO_223000 := n1_; have HO_223001 := n2_; have HO_230000 := n3_; have HO_230001 := n4_; have HO_241000 := n5_; have HO_241001 := n6_; have BK204 := n7_; have BK222 := n8_; have BK229 := n9_; have BK240 := n10_; have HO244 := n11_; have HO247 := n12_; have HO251 := n13_; have HB := n14_; clear n0_ n1_ n2_ n3_ n4_ n5_ n6_ n7_ n8_ n9_ n10_ n11_ n12_ n13_ n14_; (try clear hb); (try clear hkp); (try clear hy0)))
        (try simp only [Act.put, List.setIfInBounds_toArray, List.set_cons_zero, List.set_cons_succ])
        go_cut [80] (fun v80 wc => ∃ (kq : Nat) (x80_77 : Bool), v80 = .bool x80_77 ∧ Aside0 (laws_FnExactCrashDevice.j1 kq l1 t221 x80_77 l0_0 l0_1 t215 t218 t233 t236 = some r) ∧ Aside0 (kq ≤ kj15) ∧ Aside0 (Kd.R Kd.string 9 wc w.heap.size (fun k_ => some k_ ≠ ((.slice Ao35 t223.length co35) : Value).ownBlock ∧ some k_ ≠ ((.slice Ao45 t233.length co45) : Value).ownBlock) (.slice Ao28 t215.length co28) t215) ∧ Aside0 (Kd.R k42 42 wc w.heap.size (fun k_ => some k_ ≠ ((.slice Ao39 t226.length co39) : Value).ownBlock ∧ some k_ ≠ ((.slice Ao50 t236.length co50) : Value).ownBlock) (.slice Ao31 t218.length co31) t218) ∧ Aside0 (Kd.R Kd.string 9 wc w.heap.size (fun k_ => some k_ ≠ ((.slice Ao28 t215.length co28) : Value).ownBlock ∧ some k_ ≠ ((.slice Ao45 t233.length co45) : Value).ownBlock) (.slice Ao35 t223.length co35) t254) ∧ Aside0 (Kd.R k42 42 wc w.heap.size (fun k_ => some k_ ≠ ((.slice Ao31 t218.length co31) : Value).ownBlock ∧ some k_ ≠ ((.slice Ao50 t236.length co50) : Value).ownBlock) (.slice Ao39 t226.length co39) t255) ∧ Aside0 (Kd.R Kd.string 9 wc w.heap.size (fun k_ => some k_ ≠ ((.slice Ao28 t215.length co28) : Value).ownBlock ∧ some k_ ≠ ((.slice Ao35 t223.length co35) : Value).ownBlock) (.slice Ao45 t233.length co45) t233) ∧ Aside0 (Kd.R k42 42 wc w.heap.size (fun k_ => some k_ ≠ ((.slice Ao31 t218.length co31) : Value).ownBlock ∧ some k_ ≠ ((.slice Ao39 t226.length co39) : Value).ownBlock) (.slice Ao50 t236.length co50) t236) ∧ Aside0 (wc.heap[gb204]? = some (.cells #[(.slice A0_0 l0_0.length c0_0), (.slice A0_1 l0_1.length c0_1)] 25 (0, 0))) ∧ Aside0 (wc.heap[gb222]? = some (.cells #[(.slice Ao28 t215.length co28), (.slice Ao31 t218.length co31)] 30 (0, 0))) ∧ Aside0 (wc.heap[gb229]? = some (.cells #[(.slice Ao35 t223.length co35), (.slice Ao39 t226.length co39)] 30 (0, 0))) ∧ Aside0 (wc.heap[gb240]? = some (.cells #[(.slice Ao45 t233.length co45), (.slice Ao50 t236.length co50)] 30 (0, 0))) ∧ Aside0 (Below w.heap.size w wc))
        case first =>
         have H := HC78.out
         clear HC78
         by_cases c92 : t256 < 0
         ·rw [if_pos c92] at H
          have c92b0 : decide (t256 < 0) = true := decide_eq_true c92
          clear c92
          (first | rw [c92b0] | (simp only [i64_w, i32_w]; rw [c92b0]) | skip)
          have H' := aM H
          clear H
          go_wp2
          go_meet
          case rel => exact ⟨_, (true), (by first | rfl | (simp; done) | (simp [*]; done)), H', ⟨by have := HJ15.out; first | omega | exact Nat.le_refl _⟩, ⟨by (with_reducible repeat (first | apply xA | apply xN | apply xD)); exact xM HO_223000.out (fun _ hk => ⟨hk.1, hk.2.1⟩)⟩, ⟨by (with_reducible repeat (first | apply xA | apply xN | apply xD)); exact xM HO_223001.out (fun _ hk => ⟨hk.1, hk.2.1⟩)⟩, ⟨by (with_reducible repeat (first | apply xA | apply xN | apply xD)); exact xM HO_230000.out (fun _ hk => ⟨hk.1, hk.2.1⟩)⟩, ⟨by (with_reducible repeat (first | apply xA | apply xN | apply xD)); exact xM HO_230001.out (fun _ hk => ⟨hk.1, hk.2.1⟩)⟩, ⟨by (with_reducible repeat (first | apply xA | apply xN | apply xD)); exact xM HO_241000.out (fun _ hk => ⟨hk.1, hk.2.1⟩)⟩, ⟨by (with_reducible repeat (first | apply xA | apply xN | apply xD)); exact xM HO_241001.out (fun _ hk => ⟨hk.1, hk.2.1⟩)⟩, ⟨by (with_reducible repeat (first | refine yN ?_ _ | refine yD ?_ | refine yA ?_ _)); exact BK204.out⟩, ⟨by (with_reducible repeat (first | refine yN ?_ _ | refine yD ?_ | refine yA ?_ _)); exact BK222.out⟩, ⟨by (with_reducible repeat (first | refine yN ?_ _ | refine yD ?_ | refine yA ?_ _)); exact BK229.out⟩, ⟨by (with_reducible repeat (first | refine yN ?_ _ | refine yD ?_ | refine yA ?_ _)); exact BK240.out⟩, ⟨by repeat (first | (with_reducible first | exact HB.out | apply zA | apply zN | apply zD | refine zS ?_ GE204.out | refine zS ?_ GE222.out | refine zS ?_ GE229.out | refine zS ?_ GE240.out) | exact HB.out)⟩⟩
         ·rw [if_neg c92] at H
          have c92b0 : decide (t256 < 0) = false := decide_eq_false c92
          clear c92
          (first | rw [c92b0] | (simp only [i64_w, i32_w]; rw [c92b0]) | skip)
          replace H := Option.bind_eq_some_iff.mp H
          obtain ⟨t258, A930, H⟩ := H
          replace H : (if t258 = true then (laws_FnExactCrashDevice.j1 kj15 l1 t221 (t239 != t221) l0_0 l0_1 t215 t218 t233 t236) else (laws_FnExactCrashDevice.j1 kj15 l1 t221 true l0_0 l0_1 t215 t218 t233 t236)) = some r := H
          have A93 := aM A930
          clear A930
          by_cases c94 : t258 = true
          ·subst c94
           have H1 : (laws_FnExactCrashDevice.j1 kj15 l1 t221 (t239 != t221) l0_0 l0_1 t215 t218 t233 t236) = some r := by rw [if_pos rfl] at H; exact H
           clear H
           have H := H1
           clear H1
           have H' := aM H
           clear H
           have hnb95 := NB240_204.out
           have hnc95 := NB204_240.out
           have hnb96 := NB240_222.out
           have hnc96 := NB222_240.out
           have hnb97 := NB240_229.out
           have hnc97 := NB229_240.out
           have hcz98_0 : w91.cell? ⟨gb240, 0, none⟩ = some (.slice Ao45 t233.length co45) := (yC BK240.out 0).trans rfl
           have hcz98_1 : w91.cell? ⟨gb240, 1, none⟩ = some (.slice Ao50 t236.length co50) := (yC BK240.out 1).trans rfl
           have hfz98_0 := yZ BK240.out 0
           have hfz98_1 := yZ BK240.out 1
           have hnb99 := NB222_204.out
           have hnc99 := NB204_222.out
           have hnb100 := NB222_229.out
           have hnc100 := NB229_222.out
           have hcz101_0 : w91.cell? ⟨gb222, 0, none⟩ = some (.slice Ao28 t215.length co28) := (yC BK222.out 0).trans rfl
           have hcz101_1 : w91.cell? ⟨gb222, 1, none⟩ = some (.slice Ao31 t218.length co31) := (yC BK222.out 1).trans rfl
           have hfz101_0 := yZ BK222.out 0
           have hfz101_1 := yZ BK222.out 1
           go_wp2_with (first | (go_at_call 17; (with_reducible refine (laws_eqDevice.calls kj15 _ _ t233 _ _ t236 _ _ t215 _ _ t218 true _ ?side1 ?side2 ?side3 ?side4 ?side5 ?side6 ?side7 ?side8 A93.out).mono ?_); (case side1 => repeat (first | exact (Kd.R_reads' HO_241000.out).2.2 | (with_reducible refine cA ?_ _) | (with_reducible refine cN ?_ _) | (with_reducible refine cD ?_))); (case side2 => exact (Kd.R_reads' HO_241000.out).2.1); (case side3 => repeat (first | exact (Kd.R_reads' HO_241001.out).2.2 | (with_reducible refine cA ?_ _) | (with_reducible refine cN ?_ _) | (with_reducible refine cD ?_))); (case side4 => exact (Kd.R_reads' HO_241001.out).2.1); (case side5 => repeat (first | exact (Kd.R_reads' HO_223000.out).2.2 | (with_reducible refine cA ?_ _) | (with_reducible refine cN ?_ _) | (with_reducible refine cD ?_))); (case side6 => exact (Kd.R_reads' HO_223000.out).2.1); (case side7 => repeat (first | exact (Kd.R_reads' HO_223001.out).2.2 | (with_reducible refine cA ?_ _) | (with_reducible refine cN ?_ _) | (with_reducible refine cD ?_))); (case side8 => exact (Kd.R_reads' HO_223001.out).2.1); rintro e w102 ⟨rfl, hb⟩; have n0_ := aM (xB (by (with_reducible repeat (first | apply xA | apply xN | apply xD)); exact HO_9.out) hb); have n1_ := aM (xB (by (with_reducible repeat (first | apply xA | apply xN | apply xD)); exact HO_223000.out) hb); have n2_ := aM (xB (by (with_reducible repeat (first | apply xA | apply xN | apply xD)); exact HO_223001.out) hb); have n3_ := aM (xB (by (with_reducible repeat (first | apply xA | apply xN | apply xD)); exact HO_230000.out) hb); have n4_ := aM (xB (by (with_reducible repeat (first | apply xA | apply xN | apply xD)); exact HO_230001.out) hb); have n5_ := aM (xB (by (with_reducible repeat (first | apply xA | apply xN | apply xD)); exact HO_241000.out) hb); have n6_ := aM (xB (by (with_reducible repeat (first | apply xA | apply xN | apply xD)); exact HO_241001.out) hb); have n7_ := aM (xB (by (with_reducible repeat (first | apply xA | apply xN | apply xD)); exact HO244.out) hb); have n8_ := aM (xB (by (with_reducible repeat (first | apply xA | apply xN | apply xD)); exact HO247.out) hb); have n9_ := aM (xB (by (with_reducible repeat (first | apply xA | apply xN | apply xD)); exact HO251.out) hb); have n10_ := aM (yB (g := gb204) (o := .cells #[.slice A0_0 l0_0.length c0_0, .slice A0_1 l0_1.length c0_1] 25 (0, 0)) (by (with_reducible repeat (first | refine yN ?_ _ | refine yD ?_ | refine yA ?_ _)); exact BK204.out) hb); have n11_ := aM (yB (g := gb222) (o := .cells #[.slice Ao28 t215.length co28, .slice Ao31 t218.length co31] 30 (0, 0)) (by (with_reducible repeat (first | refine yN ?_ _ | refine yD ?_ | refine yA ?_ _)); exact BK222.out) hb); have n12_ := aM (yB (g := gb229) (o := .cells #[.slice Ao35 t223.length co35, .slice Ao39 t226.length co39] 30 (0, 0)) (by (with_reducible repeat (first | refine yN ?_ _ | refine yD ?_ | refine yA ?_ _)); exact BK229.out) hb); have n13_ := aM (yB (g := gb240) (o := .cells #[.slice Ao45 t233.length co45, .slice Ao50 t236.length co50] 30 (0, 0)) (by (with_reducible repeat (first | refine yN ?_ _ | refine yD ?_ | refine yA ?_ _)); exact BK240.out) hb); have n14_ := aM (zT (by repeat (first | (with_reducible first | exact HB.out | apply zA | apply zN | apply zD | refine zS ?_ GE204.out | refine zS ?_ GE222.out | refine zS ?_ GE229.out | refine zS ?_ GE240.out) | exact HB.out)) hb); clear HO_9; clear HO_223000; clear HO_223001; clear HO_230000; clear HO_230001; clear HO_241000; clear HO_241001; clear HO244; clear HO247; clear HO251; clear BK204; clear BK222; clear BK229; clear BK240; clear HB; have HO_9 := n0_; have HO_223000 := n1_; have HO_223001 := n2_; have HO_230000 := n3_; have HO_230001 := n4_; have HO_241000 := n5_; have HO_241001 := n6_; have HO244 := n7_; have HO247 := n8_; have HO251 := n9_; have BK204 := n10_; have BK222 := n11_; have BK229 := n12_; have BK240 := n13_; have HB := n14_; clear n0_ n1_ n2_ n3_ n4_ n5_ n6_ n7_ n8_ n9_ n10_ n11_ n12_ n13_ n14_; (try clear hb); (try clear hb2); (try clear hk); (try clear hi)))
           go_meet
           case rel => exact ⟨_, ((t239 != t221)), (by first | rfl | (simp; done) | (simp [*]; done)), H', ⟨by have := HJ15.out; first | omega | exact Nat.le_refl _⟩, ⟨by (with_reducible repeat (first | apply xA | apply xN | apply xD)); exact xM HO_223000.out (fun _ hk => ⟨hk.1, hk.2.1⟩)⟩, ⟨by (with_reducible repeat (first | apply xA | apply xN | apply xD)); exact xM HO_223001.out (fun _ hk => ⟨hk.1, hk.2.1⟩)⟩, ⟨by (with_reducible repeat (first | apply xA | apply xN | apply xD)); exact xM HO_230000.out (fun _ hk => ⟨hk.1, hk.2.1⟩)⟩, ⟨by (with_reducible repeat (first | apply xA | apply xN | apply xD)); exact xM HO_230001.out (fun _ hk => ⟨hk.1, hk.2.1⟩)⟩, ⟨by (with_reducible repeat (first | apply xA | apply xN | apply xD)); exact xM HO_241000.out (fun _ hk => ⟨hk.1, hk.2.1⟩)⟩, ⟨by (with_reducible repeat (first | apply xA | apply xN | apply xD)); exact xM HO_241001.out (fun _ hk => ⟨hk.1, hk.2.1⟩)⟩, ⟨by (with_reducible repeat (first | refine yN ?_ _ | refine yD ?_ | refine yA ?_ _)); exact BK204.out⟩, ⟨by (with_reducible repeat (first | refine yN ?_ _ | refine yD ?_ | refine yA ?_ _)); exact BK222.out⟩, ⟨by (with_reducible repeat (first | refine yN ?_ _ | refine yD ?_ | refine yA ?_ _)); exact BK229.out⟩, ⟨by (with_reducible repeat (first | refine yN ?_ _ | refine yD ?_ | refine yA ?_ _)); exact BK240.out⟩, ⟨by repeat (first | (with_reducible first | exact HB.out | apply zA | apply zN | apply zD | refine zS ?_ GE204.out | refine zS ?_ GE222.out | refine zS ?_ GE229.out | refine zS ?_ GE240.out) | exact HB.out)⟩⟩
          ·replace c94 := Bool.eq_false_iff.mpr c94
           subst c94
           have H1 : (laws_FnExactCrashDevice.j1 kj15 l1 t221 true l0_0 l0_1 t215 t218 t233 t236) = some r := by rw [if_neg (show ¬ (false = true) by decide)] at H; exact H
           clear H
           have H := H1
           clear H1
           have H' := aM H
           clear H
           have hnb103 := NB240_204.out
           have hnc103 := NB204_240.out
           have hnb104 := NB240_222.out
           have hnc104 := NB222_240.out
           have hnb105 := NB240_229.out
           have hnc105 := NB229_240.out
           have hcz106_0 : w91.cell? ⟨gb240, 0, none⟩ = some (.slice Ao45 t233.length co45) := (yC BK240.out 0).trans rfl
           have hcz106_1 : w91.cell? ⟨gb240, 1, none⟩ = some (.slice Ao50 t236.length co50) := (yC BK240.out 1).trans rfl
           have hfz106_0 := yZ BK240.out 0
           have hfz106_1 := yZ BK240.out 1
           have hnb107 := NB222_204.out
           have hnc107 := NB204_222.out
           have hnb108 := NB222_229.out
           have hnc108 := NB229_222.out
           have hcz109_0 : w91.cell? ⟨gb222, 0, none⟩ = some (.slice Ao28 t215.length co28) := (yC BK222.out 0).trans rfl
           have hcz109_1 : w91.cell? ⟨gb222, 1, none⟩ = some (.slice Ao31 t218.length co31) := (yC BK222.out 1).trans rfl
           have hfz109_0 := yZ BK222.out 0
           have hfz109_1 := yZ BK222.out 1
           go_wp2_with (first | (go_at_call 17; (with_reducible refine (laws_eqDevice.calls kj15 _ _ t233 _ _ t236 _ _ t215 _ _ t218 false _ ?side1 ?side2 ?side3 ?side4 ?side5 ?side6 ?side7 ?side8 A93.out).mono ?_); (case side1 => repeat (first | exact (Kd.R_reads' HO_241000.out).2.2 | (with_reducible refine cA ?_ _) | (with_reducible refine cN ?_ _) | (with_reducible refine cD ?_))); (case side2 => exact (Kd.R_reads' HO_241000.out).2.1); (case side3 => repeat (first | exact (Kd.R_reads' HO_241001.out).2.2 | (with_reducible refine cA ?_ _) | (with_reducible refine cN ?_ _) | (with_reducible refine cD ?_))); (case side4 => exact (Kd.R_reads' HO_241001.out).2.1); (case side5 => repeat (first | exact (Kd.R_reads' HO_223000.out).2.2 | (with_reducible refine cA ?_ _) | (with_reducible refine cN ?_ _) | (with_reducible refine cD ?_))); (case side6 => exact (Kd.R_reads' HO_223000.out).2.1); (case side7 => repeat (first | exact (Kd.R_reads' HO_223001.out).2.2 | (with_reducible refine cA ?_ _) | (with_reducible refine cN ?_ _) | (with_reducible refine cD ?_))); (case side8 => exact (Kd.R_reads' HO_223001.out).2.1); rintro e w110 ⟨rfl, hb⟩; have n0_ := aM (xB (by (with_reducible repeat (first | apply xA | apply xN | apply xD)); exact HO_9.out) hb); have n1_ := aM (xB (by (with_reducible repeat (first | apply xA | apply xN | apply xD)); exact HO_223000.out) hb); have n2_ := aM (xB (by (with_reducible repeat (first | apply xA | apply xN | apply xD)); exact HO_223001.out) hb); have n3_ := aM (xB (by (with_reducible repeat (first | apply xA | apply xN | apply xD)); exact HO_230000.out) hb); have n4_ := aM (xB (by (with_reducible repeat (first | apply xA | apply xN | apply xD)); exact HO_230001.out) hb); have n5_ := aM (xB (by (with_reducible repeat (first | apply xA | apply xN | apply xD)); exact HO_241000.out) hb); have n6_ := aM (xB (by (with_reducible repeat (first | apply xA | apply xN | apply xD)); exact HO_241001.out) hb); have n7_ := aM (xB (by (with_reducible repeat (first | apply xA | apply xN | apply xD)); exact HO244.out) hb); have n8_ := aM (xB (by (with_reducible repeat (first | apply xA | apply xN | apply xD)); exact HO247.out) hb); have n9_ := aM (xB (by (with_reducible repeat (first | apply xA | apply xN | apply xD)); exact HO251.out) hb); have n10_ := aM (yB (g := gb204) (o := .cells #[.slice A0_0 l0_0.length c0_0, .slice A0_1 l0_1.length c0_1] 25 (0, 0)) (by (with_reducible repeat (first | refine yN ?_ _ | refine yD ?_ | refine yA ?_ _)); exact BK204.out) hb); have n11_ := aM (yB (g := gb222) (o := .cells #[.slice Ao28 t215.length co28, .slice Ao31 t218.length co31] 30 (0, 0)) (by (with_reducible repeat (first | refine yN ?_ _ | refine yD ?_ | refine yA ?_ _)); exact BK222.out) hb); have n12_ := aM (yB (g := gb229) (o := .cells #[.slice Ao35 t223.length co35, .slice Ao39 t226.length co39] 30 (0, 0)) (by (with_reducible repeat (first | refine yN ?_ _ | refine yD ?_ | refine yA ?_ _)); exact BK229.out) hb); have n13_ := aM (yB (g := gb240) (o := .cells #[.slice Ao45 t233.length co45, .slice Ao50 t236.length co50] 30 (0, 0)) (by (with_reducible repeat (first | refine yN ?_ _ | refine yD ?_ | refine yA ?_ _)); exact BK240.out) hb); have n14_ := aM (zT (by repeat (first | (with_reducible first | exact HB.out | apply zA | apply zN | apply zD | refine zS ?_ GE204.out | refine zS ?_ GE222.out | refine zS ?_ GE229.out | refine zS ?_ GE240.out) | exact HB.out)) hb); clear HO_9; clear HO_223000; clear HO_223001; clear HO_230000; clear HO_230001; clear HO_241000; clear HO_241001; clear HO244; clear HO247; clear HO251; clear BK204; clear BK222; clear BK229; clear BK240; clear HB; have HO_9 := n0_; have HO_223000 := n1_; have HO_223001 := n2_; have HO_230000 := n3_; have HO_230001 := n4_; have HO_241000 := n5_; have HO_241001 := n6_; have HO244 := n7_; have HO247 := n8_; have HO251 := n9_; have BK204 := n10_; have BK222 := n11_; have BK229 := n12_; have BK240 := n13_; have HB := n14_; clear n0_ n1_ n2_ n3_ n4_ n5_ n6_ n7_ n8_ n9_ n10_ n11_ n12_ n13_ n14_; (try clear hb); (try clear hb2); (try clear hk); (try clear hi)))
           go_meet
           case rel => exact ⟨_, (true), (by first | rfl | (simp; done) | (simp [*]; done)), H', ⟨by have := HJ15.out; first | omega | exact Nat.le_refl _⟩, ⟨by (with_reducible repeat (first | apply xA | apply xN | apply xD)); exact xM HO_223000.out (fun _ hk => ⟨hk.1, hk.2.1⟩)⟩, ⟨by (with_reducible repeat (first | apply xA | apply xN | apply xD)); exact xM HO_223001.out (fun _ hk => ⟨hk.1, hk.2.1⟩)⟩, ⟨by (with_reducible repeat (first | apply xA | apply xN | apply xD)); exact xM HO_230000.out (fun _ hk => ⟨hk.1, hk.2.1⟩)⟩, ⟨by (with_reducible repeat (first | apply xA | apply xN | apply xD)); exact xM HO_230001.out (fun _ hk => ⟨hk.1, hk.2.1⟩)⟩, ⟨by (with_reducible repeat (first | apply xA | apply xN | apply xD)); exact xM HO_241000.out (fun _ hk => ⟨hk.1, hk.2.1⟩)⟩, ⟨by (with_reducible repeat (first | apply xA | apply xN | apply xD)); exact xM HO_241001.out (fun _ hk => ⟨hk.1, hk.2.1⟩)⟩, ⟨by (with_reducible repeat (first | refine yN ?_ _ | refine yD ?_ | refine yA ?_ _)); exact BK204.out⟩, ⟨by (with_reducible repeat (first | refine yN ?_ _ | refine yD ?_ | refine yA ?_ _)); exact BK222.out⟩, ⟨by (with_reducible repeat (first | refine yN ?_ _ | refine yD ?_ | refine yA ?_ _)); exact BK229.out⟩, ⟨by (with_reducible repeat (first | refine yN ?_ _ | refine yD ?_ | refine yA ?_ _)); exact BK240.out⟩, ⟨by repeat (first | (with_reducible first | exact HB.out | apply zA | apply zN | apply zD | refine zS ?_ GE204.out | refine zS ?_ GE222.out | refine zS ?_ GE229.out | refine zS ?_ GE240.out) | exact HB.out)⟩⟩
        case rest =>
         clear HC78
         try clear c1
         try clear c2
         try clear p2
         try clear c3
         try clear c3b0
         try clear c3b1
         try clear c4
         try clear c5
         try clear c6
         try clear c6b0
         try clear c7
         try clear c8
         try clear c9
         try clear c10
         try clear c13
         try clear c15
         try clear c17
         try clear c26
         try clear c29
         try clear c30
         try clear c31
         try clear c32
         try clear c33
         try clear c34
         try clear c36
         try clear c37
         try clear c46
         try clear c47
         try clear c48
         try clear c52
         try clear c53
         try clear c54
         try clear c55
         try clear c57
         try clear c58
         try clear c61
         try clear c62
         try clear c63
         try clear c65
         try clear c66
         try clear c69
         try clear c72
         try clear c75
         try clear c86
         try clear c87
         try clear c88
         try clear c92
         try clear c92b0
         try clear c94
         try clear c95
         try clear c96
         try clear c97
         try clear c99
         try clear c100
         try clear c103
         try clear c104
         try clear c105
         try clear c107
         try clear c108
         try clear hcz101_0
         try clear hcz101_1
         try clear hcz106_0
         try clear hcz106_1
         try clear hcz109_0
         try clear hcz109_1
         try clear hcz18_0
         try clear hcz18_1
         try clear hcz20_0
         try clear hcz20_1
         try clear hcz30_0
         try clear hcz30_1
         try clear hcz32_0
         try clear hcz32_1
         try clear hcz38_0
         try clear hcz38_1
         try clear hcz41_0
         try clear hcz41_1
         try clear hcz49_0
         try clear hcz49_1
         try clear hcz56_0
         try clear hcz56_1
         try clear hcz59_0
         try clear hcz59_1
         try clear hcz64_0
         try clear hcz64_1
         try clear hcz67_0
         try clear hcz67_1
         try clear hcz89_0
         try clear hcz89_1
         try clear hcz8_0
         try clear hcz8_1
         try clear hcz98_0
         try clear hcz98_1
         try clear hfz101_0
         try clear hfz101_1
         try clear hfz106_0
         try clear hfz106_1
         try clear hfz109_0
         try clear hfz109_1
         try clear hfz18_0
         try clear hfz18_1
         try clear hfz20_0
         try clear hfz20_1
         try clear hfz30_0
         try clear hfz30_1
         try clear hfz32_0
         try clear hfz32_1
         try clear hfz38_0
         try clear hfz38_1
         try clear hfz41_0
         try clear hfz41_1
         try clear hfz49_0
         try clear hfz49_1
         try clear hfz56_0
         try clear hfz56_1
         try clear hfz59_0
         try clear hfz59_1
         try clear hfz64_0
         try clear hfz64_1
         try clear hfz67_0
         try clear hfz67_1
         try clear hfz89_0
         try clear hfz89_1
         try clear hfz8_0
         try clear hfz8_1
         try clear hfz98_0
         try clear hfz98_1
         try clear p2
         obtain ⟨kq, x80_77, rfl, HA, HJ77, HO_223000, HO_223001, HO_230000, HO_230001, HO_241000, HO_241001, BK204, BK222, BK229, BK240, HB⟩ := hcut
         have hl230000_77 := (Kd.R_reads' HO_230000.out).1
         rw [hl230000_77] at HO_230000
         (try simp only [hl230000_77])
         (try simp only [hl230000_77] at BK204)
         (try simp only [hl230000_77] at BK222)
         (try simp only [hl230000_77] at BK229)
         (try simp only [hl230000_77] at BK240)
         (try simp only [hl230000_77] at HO_223000)
         (try simp only [hl230000_77] at HO_223001)
         (try simp only [hl230000_77] at HO_230001)
         (try simp only [hl230000_77] at HO_241000)
         (try simp only [hl230000_77] at HO_241001)
         have hl230001_77 := (Kd.R_reads' HO_230001.out).1
         rw [hl230001_77] at HO_230001
         (try simp only [hl230001_77])
         (try simp only [hl230001_77] at BK204)
         (try simp only [hl230001_77] at BK222)
         (try simp only [hl230001_77] at BK229)
         (try simp only [hl230001_77] at BK240)
         (try simp only [hl230001_77] at HO_223000)
         (try simp only [hl230001_77] at HO_223001)
         (try simp only [hl230001_77] at HO_230000)
         (try simp only [hl230001_77] at HO_241000)
         (try simp only [hl230001_77] at HO_241001)
         cases kq with
         | zero => exact absurd HA.out (fun h_ => by change none = some _ at h_; cases h_)
         | succ kj77 =>
          have H := HA.out
          clear HA
          simp only [laws_FnExactCrashDevice.j1] at H
          by_cases c111 : x80_77 = true
          ·subst c111
           have H1 : (some false) = some r := by rw [if_pos rfl] at H; exact H
           clear H
           have H := H1
           clear H1
           exact absurd (H.trans (congrArg some HR_.out)) (by decide)
          ·replace c111 := Bool.eq_false_iff.mpr c111
           subst c111
           have H1 : ((laws_markDevice.f kj77 t233 t236 1).bind fun bt259 => ((laws_heldDevice.f kj77 bt259.2.1 bt259.2.2 1).bind fun t262 => (if t262 < 0 then (some false) else (if t262 = bt259.1 then ((laws_toDevice.f kj77 l0_0 l0_1).bind fun bt263 => ((laws_toBoolS.f kj77 l1).bind fun t269 => ((impl_CrashDevice.f bt263.1 bt263.2 t269).bind fun bt272 => ((laws_eqDevice.f kj77 bt272.1 bt272.2.1 t215 t218).bind fun t280 => (if t280 = true then (laws_FnExactCrashDevice.j2 kj77 bt259.1 (bt272.2.2 != t221) bt259.2.1 bt259.2.2) else (laws_FnExactCrashDevice.j2 kj77 bt259.1 true bt259.2.1 bt259.2.2)))))) else (some false))))) = some r := by rw [if_neg (show ¬ (false = true) by decide)] at H; exact H
           clear H
           have H := H1
           clear H1
           replace H := Option.bind_eq_some_iff.mp H
           obtain ⟨⟨t259, t260, t261⟩, A1120, H⟩ := H
           replace H : ((laws_heldDevice.f kj77 t260 t261 1).bind fun t262 => (if t262 < 0 then (some false) else (if t262 = t259 then ((laws_toDevice.f kj77 l0_0 l0_1).bind fun bt263 => ((laws_toBoolS.f kj77 l1).bind fun t269 => ((impl_CrashDevice.f bt263.1 bt263.2 t269).bind fun bt272 => ((laws_eqDevice.f kj77 bt272.1 bt272.2.1 t215 t218).bind fun t280 => (if t280 = true then (laws_FnExactCrashDevice.j2 kj77 t259 (bt272.2.2 != t221) t260 t261) else (laws_FnExactCrashDevice.j2 kj77 t259 true t260 t261)))))) else (some false)))) = some r := H
           have A112 := aM A1120
           clear A1120
           replace H := Option.bind_eq_some_iff.mp H
           obtain ⟨t262, A1130, H⟩ := H
           replace H : (if t262 < 0 then (some false) else (if t262 = t259 then ((laws_toDevice.f kj77 l0_0 l0_1).bind fun bt263 => ((laws_toBoolS.f kj77 l1).bind fun t269 => ((impl_CrashDevice.f bt263.1 bt263.2 t269).bind fun bt272 => ((laws_eqDevice.f kj77 bt272.1 bt272.2.1 t215 t218).bind fun t280 => (if t280 = true then (laws_FnExactCrashDevice.j2 kj77 t259 (bt272.2.2 != t221) t260 t261) else (laws_FnExactCrashDevice.j2 kj77 t259 true t260 t261)))))) else (some false))) = some r := H
           have A113 := aM A1130
           clear A1130
           by_cases c114 : t262 < 0
           ·rw [if_pos c114] at H
            have c114b0 : decide (t262 < 0) = true := decide_eq_true c114
            clear c114
            obtain rfl := Option.some.inj H
            have hnb115 := NB240_204.out
            have hnc115 := NB204_240.out
            have hnb116 := NB240_222.out
            have hnc116 := NB222_240.out
            have hnb117 := NB240_229.out
            have hnc117 := NB229_240.out
            have hcz118_0 : wc.cell? ⟨gb240, 0, none⟩ = some (.slice Ao45 t233.length co45) := (yC BK240.out 0).trans rfl
            have hcz118_1 : wc.cell? ⟨gb240, 1, none⟩ = some (.slice Ao50 t236.length co50) := (yC BK240.out 1).trans rfl
            have hfz118_0 := yZ BK240.out 0
            have hfz118_1 := yZ BK240.out 1
            go_wp2_with (first | ((with_reducible refine gate_callee (f := 26) rfl ?_); refine goesL_ (some 83) rfl rfl Try.func26 (by kernel_rfl) rfl #[.agg #[.slice Ao45 t233.length co45, .slice Ao50 t236.length co50], .int .i64 1] rfl (by (try simp only [List.map_toArray, List.map_cons, List.map_nil]); first | done | rfl | (simp only [List.length_drop, List.length_take]; rfl)) ?_; (with_reducible refine (laws_markDevice.calls kj77 (fun k_ => some k_ = (.slice Ao45 t233.length co45 : Value).ownBlock) (.slice Ao45 t233.length co45) t233 (fun k_ => some k_ = (.slice Ao50 t236.length co50 : Value).ownBlock) (.slice Ao50 t236.length co50) t236 1 t259 t260 t261 w _ ?side1 ?side2 ?side3 A112.out).mono ?_); (case side1 => repeat (first | (with_reducible first | exact HB.out | apply zA | apply zN | apply zD | refine zS ?_ GE204.out | refine zS ?_ GE222.out | refine zS ?_ GE229.out | refine zS ?_ GE240.out) | exact HB.out)); (case side2 => exact Kd.R_tight rfl HO_241000.out); (case side3 => exact Kd.R_tight rfl HO_241001.out); rintro e w119 ⟨rfl, hy0, hy1, hb, hkp⟩; refine ⟨_, rfl, ?_⟩; have n0_ := aM (xM (ok' := fun k_ => some k_ ≠ (.slice Ao35 t254.length co35 : Value).ownBlock ∧ some k_ ≠ (.slice Ao45 t233.length co45 : Value).ownBlock) (Kd.R_keptB ((Kd.R_apart' HO_223000.out (Kd.R_typed HO_241001.out) (by decide))) hkp (fun k_ hk_ hs_ => Or.elim hs_ (fun e_ => (hk_.1.2) e_) (fun e_ => (hk_.2) e_))) (fun k_ hk_ => ⟨hk_.1.1.1, hk_.1.1.2⟩)); have n1_ := aM (xM (ok' := fun k_ => some k_ ≠ (.slice Ao39 t255.length co39 : Value).ownBlock ∧ some k_ ≠ (.slice Ao50 t236.length co50 : Value).ownBlock) (Kd.R_keptB ((Kd.R_apart' HO_223001.out (Kd.R_typed HO_241000.out) (by decide))) hkp (fun k_ hk_ hs_ => Or.elim hs_ (fun e_ => (hk_.2) e_) (fun e_ => (hk_.1.2) e_))) (fun k_ hk_ => ⟨hk_.1.1.1, hk_.1.1.2⟩)); have n2_ := aM (xM (ok' := fun k_ => some k_ ≠ (.slice Ao28 t215.length co28 : Value).ownBlock ∧ some k_ ≠ (.slice Ao45 t233.length co45 : Value).ownBlock) (Kd.R_keptB ((Kd.R_apart' HO_230000.out (Kd.R_typed HO_241001.out) (by decide))) hkp (fun k_ hk_ hs_ => Or.elim hs_ (fun e_ => (hk_.1.2) e_) (fun e_ => (hk_.2) e_))) (fun k_ hk_ => ⟨hk_.1.1.1, hk_.1.1.2⟩)); have n3_ := aM (xM (ok' := fun k_ => some k_ ≠ (.slice Ao31 t218.length co31 : Value).ownBlock ∧ some k_ ≠ (.slice Ao50 t236.length co50 : Value).ownBlock) (Kd.R_keptB ((Kd.R_apart' HO_230001.out (Kd.R_typed HO_241000.out) (by decide))) hkp (fun k_ hk_ hs_ => Or.elim hs_ (fun e_ => (hk_.2) e_) (fun e_ => (hk_.1.2) e_))) (fun k_ hk_ => ⟨hk_.1.1.1, hk_.1.1.2⟩)); have n4_ := aM (Kd.R_reok rfl hy0 (fun k_ e_ => HO_241000.out.1 k_ e_)); have n5_ := aM (Kd.R_reok rfl hy1 (fun k_ e_ => HO_241001.out.1 k_ e_)); have n6_ := aM (blk_kept BK204.out hkp (fun hs_ => Or.elim hs_ (fun e_ => (fun e_ => (Kd.R_ne HO_241000.out BK204.out (by decide)) e_) e_) (fun e_ => (fun e_ => (Kd.R_ne HO_241001.out BK204.out (by decide)) e_) e_))); have n7_ := aM (blk_kept BK222.out hkp (fun hs_ => Or.elim hs_ (fun e_ => (fun e_ => (Kd.R_ne HO_241000.out BK222.out (by decide)) e_) e_) (fun e_ => (fun e_ => (Kd.R_ne HO_241001.out BK222.out (by decide)) e_) e_))); have n8_ := aM (blk_kept BK229.out hkp (fun hs_ => Or.elim hs_ (fun e_ => (fun e_ => (Kd.R_ne HO_241000.out BK229.out (by decide)) e_) e_) (fun e_ => (fun e_ => (Kd.R_ne HO_241001.out BK229.out (by decide)) e_) e_))); have n9_ := aM (blk_kept BK240.out hkp (fun hs_ => Or.elim hs_ (fun e_ => (fun e_ => (Kd.R_ne HO_241000.out BK240.out (by decide)) e_) e_) (fun e_ => (fun e_ => (Kd.R_ne HO_241001.out BK240.out (by decide)) e_) e_))); have n10_ := aM (hb); clear HO_223000; clear HO_223001; clear HO_230000; clear HO_230001; clear HO_241000; clear HO_241001; clear BK204; clear BK222; clear BK229; clear BK240; clear HB; have HO_223000 := n0_; have HO_223001 := n1_; have HO_230000 := n2_; have HO_230001 := n3_; have HO_241000 := n4_; have HO_241001 := n5_; have BK204 := n6_; have BK222 := n7_; have BK229 := n8_; have BK240 := n9_; have HB := n10_; clear n0_ n1_ n2_ n3_ n4_ n5_ n6_ n7_ n8_ n9_ n10_; (try clear hb); (try clear hkp); (try clear hy0); (try clear hy1); have hcz120_0 : w119.cell? ⟨gb240, 0, none⟩ = some (.slice Ao45 t233.length co45) := (yC BK240.out 0).trans rfl; have hcz120_1 : w119.cell? ⟨gb240, 1, none⟩ = some (.slice Ao50 t236.length co50) := (yC BK240.out 1).trans rfl; have hfz120_0 := yZ BK240.out 0; have hfz120_1 := yZ BK240.out 1) | ((with_reducible refine gate_callee (f := 27) rfl ?_); refine goesL_ (some 86) rfl rfl Try.func27 (by kernel_rfl) rfl #[.agg #[.slice Ao45 t260.length co45, .slice Ao50 t261.length co50], .int .i64 1] rfl (by (try simp only [List.map_toArray, List.map_cons, List.map_nil]); first | done | (rw [show t260.length = t233.length from (Kd.R_reads' HO_241000.out).1.symm, show t261.length = t236.length from (Kd.R_reads' HO_241001.out).1.symm] <;> rfl) | rfl | (simp only [List.length_drop, List.length_take]; rfl)) ?_; (with_reducible refine (laws_heldDevice.calls kj77 _ _ t260 _ _ t261 1 t262 _ ?side1 ?side2 ?side3 ?side4 A113.out).mono ?_); (case side1 => repeat (first | exact (Kd.R_reads' HO_241000.out).2.2 | (with_reducible refine cA ?_ _) | (with_reducible refine cN ?_ _) | (with_reducible refine cD ?_))); (case side2 => rw [show t260.length = t233.length from (Kd.R_reads' HO_241000.out).1.symm]; exact (Kd.R_reads' HO_241000.out).2.1); (case side3 => repeat (first | exact (Kd.R_reads' HO_241001.out).2.2 | (with_reducible refine cA ?_ _) | (with_reducible refine cN ?_ _) | (with_reducible refine cD ?_))); (case side4 => rw [show t261.length = t236.length from (Kd.R_reads' HO_241001.out).1.symm]; exact (Kd.R_reads' HO_241001.out).2.1); rintro e w121 ⟨rfl, hb⟩; refine ⟨_, rfl, ?_⟩; have n0_ := aM (xB (by (with_reducible repeat (first | apply xA | apply xN | apply xD)); exact HO_223000.out) hb); have n1_ := aM (xB (by (with_reducible repeat (first | apply xA | apply xN | apply xD)); exact HO_223001.out) hb); have n2_ := aM (xB (by (with_reducible repeat (first | apply xA | apply xN | apply xD)); exact HO_230000.out) hb); have n3_ := aM (xB (by (with_reducible repeat (first | apply xA | apply xN | apply xD)); exact HO_230001.out) hb); have n4_ := aM (xB (by (with_reducible repeat (first | apply xA | apply xN | apply xD)); exact HO_241000.out) hb); have n5_ := aM (xB (by (with_reducible repeat (first | apply xA | apply xN | apply xD)); exact HO_241001.out) hb); have n6_ := aM (yB (g := gb204) (o := .cells #[.slice A0_0 l0_0.length c0_0, .slice A0_1 l0_1.length c0_1] 25 (0, 0)) (by (with_reducible repeat (first | refine yN ?_ _ | refine yD ?_ | refine yA ?_ _)); exact BK204.out) hb); have n7_ := aM (yB (g := gb222) (o := .cells #[.slice Ao28 t215.length co28, .slice Ao31 t218.length co31] 30 (0, 0)) (by (with_reducible repeat (first | refine yN ?_ _ | refine yD ?_ | refine yA ?_ _)); exact BK222.out) hb); have n8_ := aM (yB (g := gb229) (o := .cells #[.slice Ao35 t254.length co35, .slice Ao39 t255.length co39] 30 (0, 0)) (by (with_reducible repeat (first | refine yN ?_ _ | refine yD ?_ | refine yA ?_ _)); exact BK229.out) hb); have n9_ := aM (yB (g := gb240) (o := .cells #[.slice Ao45 t233.length co45, .slice Ao50 t236.length co50] 30 (0, 0)) (by (with_reducible repeat (first | refine yN ?_ _ | refine yD ?_ | refine yA ?_ _)); exact BK240.out) hb); have n10_ := aM (zT (by repeat (first | (with_reducible first | exact HB.out | apply zA | apply zN | apply zD | refine zS ?_ GE204.out | refine zS ?_ GE222.out | refine zS ?_ GE229.out | refine zS ?_ GE240.out) | exact HB.out)) hb); clear HO_223000; clear HO_223001; clear HO_230000; clear HO_230001; clear HO_241000; clear HO_241001; clear BK204; clear BK222; clear BK229; clear BK240; clear HB; have HO_223000 := n0_; have HO_223001 := n1_; have HO_230000 := n2_; have HO_230001 := n3_; have HO_241000 := n4_; have HO_241001 := n5_; have BK204 := n6_; have BK222 := n7_; have BK229 := n8_; have BK240 := n9_; have HB := n10_; clear n0_ n1_ n2_ n3_ n4_ n5_ n6_ n7_ n8_ n9_ n10_; (try clear hb); (try clear hb2); (try clear hk); (try clear hi)))
            go_ret
            exact ⟨by first | rfl | (simp [errW_none, errW_some] <;> rfl) | (simp [*, errW_none, errW_some] <;> rfl), by repeat (first | (with_reducible first | exact HB.out | apply zA | apply zN | apply zD | refine zS ?_ GE204.out | refine zS ?_ GE222.out | refine zS ?_ GE229.out | refine zS ?_ GE240.out) | exact HB.out)⟩
           ·rw [if_neg c114] at H
            have c114b0 : decide (t262 < 0) = false := decide_eq_false c114
            clear c114
            by_cases c122 : t262 = t259
            ·rw [if_pos c122] at H
             have c122b0 : (t262 == t259) = true := beq_iff_eq.mpr c122
             have c122b1 : (t262 != t259) = false := bne_eq_false_iff_eq.mpr c122
             clear c122
             replace H := Option.bind_eq_some_iff.mp H
             obtain ⟨⟨t263, t266⟩, A1230, H⟩ := H
             replace H : ((laws_toBoolS.f kj77 l1).bind fun t269 => ((impl_CrashDevice.f t263 t266 t269).bind fun bt272 => ((laws_eqDevice.f kj77 bt272.1 bt272.2.1 t215 t218).bind fun t280 => (if t280 = true then (laws_FnExactCrashDevice.j2 kj77 t259 (bt272.2.2 != t221) t260 t261) else (laws_FnExactCrashDevice.j2 kj77 t259 true t260 t261))))) = some r := H
             have A123 := aM A1230
             clear A1230
             replace H := Option.bind_eq_some_iff.mp H
             obtain ⟨t269, A1240, H⟩ := H
             replace H : ((impl_CrashDevice.f t263 t266 t269).bind fun bt272 => ((laws_eqDevice.f kj77 bt272.1 bt272.2.1 t215 t218).bind fun t280 => (if t280 = true then (laws_FnExactCrashDevice.j2 kj77 t259 (bt272.2.2 != t221) t260 t261) else (laws_FnExactCrashDevice.j2 kj77 t259 true t260 t261)))) = some r := H
             have A124 := aM A1240
             clear A1240
             replace H := Option.bind_eq_some_iff.mp H
             obtain ⟨⟨t272, t275, t278⟩, A1250, H⟩ := H
             replace H : ((laws_eqDevice.f kj77 t272 t275 t215 t218).bind fun t280 => (if t280 = true then (laws_FnExactCrashDevice.j2 kj77 t259 (t278 != t221) t260 t261) else (laws_FnExactCrashDevice.j2 kj77 t259 true t260 t261))) = some r := H
             have A125 := aM A1250
             clear A1250
             have HC126 := aM H
             clear H
             have hnb127 := NB240_204.out
             have hnc127 := NB204_240.out
             have hnb128 := NB240_222.out
             have hnc128 := NB222_240.out
             have hnb129 := NB240_229.out
             have hnc129 := NB229_240.out
             have hcz130_0 : wc.cell? ⟨gb240, 0, none⟩ = some (.slice Ao45 t233.length co45) := (yC BK240.out 0).trans rfl
             have hcz130_1 : wc.cell? ⟨gb240, 1, none⟩ = some (.slice Ao50 t236.length co50) := (yC BK240.out 1).trans rfl
             have hfz130_0 := yZ BK240.out 0
             have hfz130_1 := yZ BK240.out 1
             go_upto_region 31 with (first | ((with_reducible refine gate_callee (f := 26) rfl ?_); refine goesL_ (some 83) rfl rfl Try.func26 (by kernel_rfl) rfl #[.agg #[.slice Ao45 t233.length co45, .slice Ao50 t236.length co50], .int .i64 1] rfl (by (try simp only [List.map_toArray, List.map_cons, List.map_nil]); first | done | rfl | (simp only [List.length_drop, List.length_take]; rfl)) ?_; (with_reducible refine (laws_markDevice.calls kj77 (fun k_ => some k_ = (.slice Ao45 t233.length co45 : Value).ownBlock) (.slice Ao45 t233.length co45) t233 (fun k_ => some k_ = (.slice Ao50 t236.length co50 : Value).ownBlock) (.slice Ao50 t236.length co50) t236 1 t259 t260 t261 w _ ?side1 ?side2 ?side3 A112.out).mono ?_); (case side1 => repeat (first | (with_reducible first | exact HB.out | apply zA | apply zN | apply zD | refine zS ?_ GE204.out | refine zS ?_ GE222.out | refine zS ?_ GE229.out | refine zS ?_ GE240.out) | exact HB.out)); (case side2 => exact Kd.R_tight rfl HO_241000.out); (case side3 => exact Kd.R_tight rfl HO_241001.out); rintro e w131 ⟨rfl, hy0, hy1, hb, hkp⟩; refine ⟨_, rfl, ?_⟩; have n0_ := aM (xM (ok' := fun k_ => some k_ ≠ (.slice Ao35 t254.length co35 : Value).ownBlock ∧ some k_ ≠ (.slice Ao45 t233.length co45 : Value).ownBlock) (Kd.R_keptB ((Kd.R_apart' HO_223000.out (Kd.R_typed HO_241001.out) (by decide))) hkp (fun k_ hk_ hs_ => Or.elim hs_ (fun e_ => (hk_.1.2) e_) (fun e_ => (hk_.2) e_))) (fun k_ hk_ => ⟨hk_.1.1.1, hk_.1.1.2⟩)); have n1_ := aM (xM (ok' := fun k_ => some k_ ≠ (.slice Ao39 t255.length co39 : Value).ownBlock ∧ some k_ ≠ (.slice Ao50 t236.length co50 : Value).ownBlock) (Kd.R_keptB ((Kd.R_apart' HO_223001.out (Kd.R_typed HO_241000.out) (by decide))) hkp (fun k_ hk_ hs_ => Or.elim hs_ (fun e_ => (hk_.2) e_) (fun e_ => (hk_.1.2) e_))) (fun k_ hk_ => ⟨hk_.1.1.1, hk_.1.1.2⟩)); have n2_ := aM (xM (ok' := fun k_ => some k_ ≠ (.slice Ao28 t215.length co28 : Value).ownBlock ∧ some k_ ≠ (.slice Ao45 t233.length co45 : Value).ownBlock) (Kd.R_keptB ((Kd.R_apart' HO_230000.out (Kd.R_typed HO_241001.out) (by decide))) hkp (fun k_ hk_ hs_ => Or.elim hs_ (fun e_ => (hk_.1.2) e_) (fun e_ => (hk_.2) e_))) (fun k_ hk_ => ⟨hk_.1.1.1, hk_.1.1.2⟩)); have n3_ := aM (xM (ok' := fun k_ => some k_ ≠ (.slice Ao31 t218.length co31 : Value).ownBlock ∧ some k_ ≠ (.slice Ao50 t236.length co50 : Value).ownBlock) (Kd.R_keptB ((Kd.R_apart' HO_230001.out (Kd.R_typed HO_241000.out) (by decide))) hkp (fun k_ hk_ hs_ => Or.elim hs_ (fun e_ => (hk_.2) e_) (fun e_ => (hk_.1.2) e_))) (fun k_ hk_ => ⟨hk_.1.1.1, hk_.1.1.2⟩)); have n4_ := aM (Kd.R_reok rfl hy0 (fun k_ e_ => HO_241000.out.1 k_ e_)); have n5_ := aM (Kd.R_reok rfl hy1 (fun k_ e_ => HO_241001.out.1 k_ e_)); have n6_ := aM (blk_kept BK204.out hkp (fun hs_ => Or.elim hs_ (fun e_ => (fun e_ => (Kd.R_ne HO_241000.out BK204.out (by decide)) e_) e_) (fun e_ => (fun e_ => (Kd.R_ne HO_241001.out BK204.out (by decide)) e_) e_))); have n7_ := aM (blk_kept BK222.out hkp (fun hs_ => Or.elim hs_ (fun e_ => (fun e_ => (Kd.R_ne HO_241000.out BK222.out (by decide)) e_) e_) (fun e_ => (fun e_ => (Kd.R_ne HO_241001.out BK222.out (by decide)) e_) e_))); have n8_ := aM (blk_kept BK229.out hkp (fun hs_ => Or.elim hs_ (fun e_ => (fun e_ => (Kd.R_ne HO_241000.out BK229.out (by decide)) e_) e_) (fun e_ => (fun e_ => (Kd.R_ne HO_241001.out BK229.out (by decide)) e_) e_))); have n9_ := aM (blk_kept BK240.out hkp (fun hs_ => Or.elim hs_ (fun e_ => (fun e_ => (Kd.R_ne HO_241000.out BK240.out (by decide)) e_) e_) (fun e_ => (fun e_ => (Kd.R_ne HO_241001.out BK240.out (by decide)) e_) e_))); have n10_ := aM (hb); clear HO_223000; clear HO_223001; clear HO_230000; clear HO_230001; clear HO_241000; clear HO_241001; clear BK204; clear BK222; clear BK229; clear BK240; clear HB; have HO_223000 := n0_; have HO_223001 := n1_; have HO_230000 := n2_; have HO_230001 := n3_; have HO_241000 := n4_; have HO_241001 := n5_; have BK204 := n6_; have BK222 := n7_; have BK229 := n8_; have BK240 := n9_; have HB := n10_; clear n0_ n1_ n2_ n3_ n4_ n5_ n6_ n7_ n8_ n9_ n10_; (try clear hb); (try clear hkp); (try clear hy0); (try clear hy1); have hcz132_0 : w131.cell? ⟨gb240, 0, none⟩ = some (.slice Ao45 t233.length co45) := (yC BK240.out 0).trans rfl; have hcz132_1 : w131.cell? ⟨gb240, 1, none⟩ = some (.slice Ao50 t236.length co50) := (yC BK240.out 1).trans rfl; have hfz132_0 := yZ BK240.out 0; have hfz132_1 := yZ BK240.out 1) | ((with_reducible refine gate_callee (f := 27) rfl ?_); refine goesL_ (some 86) rfl rfl Try.func27 (by kernel_rfl) rfl #[.agg #[.slice Ao45 t260.length co45, .slice Ao50 t261.length co50], .int .i64 1] rfl (by (try simp only [List.map_toArray, List.map_cons, List.map_nil]); first | done | (rw [show t260.length = t233.length from (Kd.R_reads' HO_241000.out).1.symm, show t261.length = t236.length from (Kd.R_reads' HO_241001.out).1.symm] <;> rfl) | rfl | (simp only [List.length_drop, List.length_take]; rfl)) ?_; (with_reducible refine (laws_heldDevice.calls kj77 _ _ t260 _ _ t261 1 t262 _ ?side1 ?side2 ?side3 ?side4 A113.out).mono ?_); (case side1 => repeat (first | exact (Kd.R_reads' HO_241000.out).2.2 | (with_reducible refine cA ?_ _) | (with_reducible refine cN ?_ _) | (with_reducible refine cD ?_))); (case side2 => rw [show t260.length = t233.length from (Kd.R_reads' HO_241000.out).1.symm]; exact (Kd.R_reads' HO_241000.out).2.1); (case side3 => repeat (first | exact (Kd.R_reads' HO_241001.out).2.2 | (with_reducible refine cA ?_ _) | (with_reducible refine cN ?_ _) | (with_reducible refine cD ?_))); (case side4 => rw [show t261.length = t236.length from (Kd.R_reads' HO_241001.out).1.symm]; exact (Kd.R_reads' HO_241001.out).2.1); rintro e w133 ⟨rfl, hb⟩; refine ⟨_, rfl, ?_⟩; have n0_ := aM (xB (by (with_reducible repeat (first | apply xA | apply xN | apply xD)); exact HO_223000.out) hb); have n1_ := aM (xB (by (with_reducible repeat (first | apply xA | apply xN | apply xD)); exact HO_223001.out) hb); have n2_ := aM (xB (by (with_reducible repeat (first | apply xA | apply xN | apply xD)); exact HO_230000.out) hb); have n3_ := aM (xB (by (with_reducible repeat (first | apply xA | apply xN | apply xD)); exact HO_230001.out) hb); have n4_ := aM (xB (by (with_reducible repeat (first | apply xA | apply xN | apply xD)); exact HO_241000.out) hb); have n5_ := aM (xB (by (with_reducible repeat (first | apply xA | apply xN | apply xD)); exact HO_241001.out) hb); have n6_ := aM (yB (g := gb204) (o := .cells #[.slice A0_0 l0_0.length c0_0, .slice A0_1 l0_1.length c0_1] 25 (0, 0)) (by (with_reducible repeat (first | refine yN ?_ _ | refine yD ?_ | refine yA ?_ _)); exact BK204.out) hb); have n7_ := aM (yB (g := gb222) (o := .cells #[.slice Ao28 t215.length co28, .slice Ao31 t218.length co31] 30 (0, 0)) (by (with_reducible repeat (first | refine yN ?_ _ | refine yD ?_ | refine yA ?_ _)); exact BK222.out) hb); have n8_ := aM (yB (g := gb229) (o := .cells #[.slice Ao35 t254.length co35, .slice Ao39 t255.length co39] 30 (0, 0)) (by (with_reducible repeat (first | refine yN ?_ _ | refine yD ?_ | refine yA ?_ _)); exact BK229.out) hb); have n9_ := aM (yB (g := gb240) (o := .cells #[.slice Ao45 t233.length co45, .slice Ao50 t236.length co50] 30 (0, 0)) (by (with_reducible repeat (first | refine yN ?_ _ | refine yD ?_ | refine yA ?_ _)); exact BK240.out) hb); have n10_ := aM (zT (by repeat (first | (with_reducible first | exact HB.out | apply zA | apply zN | apply zD | refine zS ?_ GE204.out | refine zS ?_ GE222.out | refine zS ?_ GE229.out | refine zS ?_ GE240.out) | exact HB.out)) hb); clear HO_223000; clear HO_223001; clear HO_230000; clear HO_230001; clear HO_241000; clear HO_241001; clear BK204; clear BK222; clear BK229; clear BK240; clear HB; have HO_223000 := n0_; have HO_223001 := n1_; have HO_230000 := n2_; have HO_230001 := n3_; have HO_241000 := n4_; have HO_241001 := n5_; have BK204 := n6_; have BK222 := n7_; have BK229 := n8_; have BK240 := n9_; have HB := n10_; clear n0_ n1_ n2_ n3_ n4_ n5_ n6_ n7_ n8_ n9_ n10_; (try clear hb); (try clear hb2); (try clear hk); (try clear hi); have hnb134 := NB204_222.out; have hnc134 := NB222_204.out; have hnb135 := NB204_229.out; have hnc135 := NB229_204.out; have hcz136_0 : w133.cell? ⟨gb204, 0, none⟩ = some (.slice A0_0 l0_0.length c0_0) := (yC BK204.out 0).trans rfl; have hcz136_1 : w133.cell? ⟨gb204, 1, none⟩ = some (.slice A0_1 l0_1.length c0_1) := (yC BK204.out 1).trans rfl; have hfz136_0 := yZ BK204.out 0; have hfz136_1 := yZ BK204.out 1) | ((with_reducible refine gate_callee (f := 15) rfl ?_); refine goesL_ (some 94) rfl rfl Try.func15 (by kernel_rfl) rfl #[.agg #[.slice A0_0 l0_0.length c0_0, .slice A0_1 l0_1.length c0_1]] rfl (by (try simp only [List.map_toArray, List.map_cons, List.map_nil]); first | done | rfl | (simp only [List.length_drop, List.length_take]; rfl)) ?_; (with_reducible refine (laws_toDevice.calls kj77 _ _ l0_0 _ _ l0_1 t263 t266 _ ?side1 ?side2 ?side3 ?side4 A123.out).mono ?_); (case side1 => repeat (first | exact (cB HR0_0.out HB.out) | (with_reducible refine cA ?_ _) | (with_reducible refine cN ?_ _) | (with_reducible refine cD ?_))); (case side2 => exact HC0_0.out); (case side3 => repeat (first | exact (cB HR0_1.out HB.out) | (with_reducible refine cA ?_ _) | (with_reducible refine cN ?_ _) | (with_reducible refine cD ?_))); (case side4 => exact HC0_1.out); rintro e w137 ⟨v264, v267, rfl, ho0, ho1, hb⟩; refine ⟨_, rfl, ?_⟩; have n0_ := aM (Kd.R_elder' (by (with_reducible repeat (first | apply xA | apply xN | apply xD)); exact HO_223000.out) (Kd.R_base ho0) hb); have n1_ := aM (Kd.R_elder' (by (with_reducible repeat (first | apply xA | apply xN | apply xD)); exact HO_223001.out) (Kd.R_base ho1) hb); have n2_ := aM (Kd.R_elder' (by (with_reducible repeat (first | apply xA | apply xN | apply xD)); exact HO_230000.out) (Kd.R_base ho0) hb); have n3_ := aM (Kd.R_elder' (by (with_reducible repeat (first | apply xA | apply xN | apply xD)); exact HO_230001.out) (Kd.R_base ho1) hb); have n4_ := aM (Kd.R_elder' (by (with_reducible repeat (first | apply xA | apply xN | apply xD)); exact HO_241000.out) (Kd.R_base ho0) hb); have n5_ := aM (Kd.R_elder' (by (with_reducible repeat (first | apply xA | apply xN | apply xD)); exact HO_241001.out) (Kd.R_base ho1) hb); have n6_ := aM (xL (Kd.R_new' (Kd.R_new' (Kd.R_new' ho0 (Kd.R_lt (by (with_reducible repeat (first | apply xA | apply xN | apply xD)); exact HO_223000.out))) (Kd.R_lt (by (with_reducible repeat (first | apply xA | apply xN | apply xD)); exact HO_230000.out))) (Kd.R_lt (by (with_reducible repeat (first | apply xA | apply xN | apply xD)); exact HO_241000.out))) (zZ (by repeat (first | (with_reducible first | exact HB.out | apply zA | apply zN | apply zD | refine zS ?_ GE204.out | refine zS ?_ GE222.out | refine zS ?_ GE229.out | refine zS ?_ GE240.out) | exact HB.out)))); have n7_ := aM (xL (Kd.R_new' (Kd.R_new' (Kd.R_new' ho1 (Kd.R_lt (by (with_reducible repeat (first | apply xA | apply xN | apply xD)); exact HO_223001.out))) (Kd.R_lt (by (with_reducible repeat (first | apply xA | apply xN | apply xD)); exact HO_230001.out))) (Kd.R_lt (by (with_reducible repeat (first | apply xA | apply xN | apply xD)); exact HO_241001.out))) (zZ (by repeat (first | (with_reducible first | exact HB.out | apply zA | apply zN | apply zD | refine zS ?_ GE204.out | refine zS ?_ GE222.out | refine zS ?_ GE229.out | refine zS ?_ GE240.out) | exact HB.out)))); have n8_ := aM (yB (g := gb204) (o := .cells #[.slice A0_0 l0_0.length c0_0, .slice A0_1 l0_1.length c0_1] 25 (0, 0)) (by (with_reducible repeat (first | refine yN ?_ _ | refine yD ?_ | refine yA ?_ _)); exact BK204.out) hb); have n9_ := aM (yB (g := gb222) (o := .cells #[.slice Ao28 t215.length co28, .slice Ao31 t218.length co31] 30 (0, 0)) (by (with_reducible repeat (first | refine yN ?_ _ | refine yD ?_ | refine yA ?_ _)); exact BK222.out) hb); have n10_ := aM (yB (g := gb229) (o := .cells #[.slice Ao35 t254.length co35, .slice Ao39 t255.length co39] 30 (0, 0)) (by (with_reducible repeat (first | refine yN ?_ _ | refine yD ?_ | refine yA ?_ _)); exact BK229.out) hb); have n11_ := aM (yB (g := gb240) (o := .cells #[.slice Ao45 t233.length co45, .slice Ao50 t236.length co50] 30 (0, 0)) (by (with_reducible repeat (first | refine yN ?_ _ | refine yD ?_ | refine yA ?_ _)); exact BK240.out) hb); have n12_ := aM (zT (by repeat (first | (with_reducible first | exact HB.out | apply zA | apply zN | apply zD | refine zS ?_ GE204.out | refine zS ?_ GE222.out | refine zS ?_ GE229.out | refine zS ?_ GE240.out) | exact HB.out)) hb); clear HO_223000; clear HO_223001; clear HO_230000; clear HO_230001; clear HO_241000; clear HO_241001; clear BK204; clear BK222; clear BK229; clear BK240; clear HB; have HO_223000 := n0_; have HO_223001 := n1_; have HO_230000 := n2_; have HO_230001 := n3_; have HO_241000 := n4_; have HO_241001 := n5_; have HO265 := n6_; have HO268 := n7_; have BK204 := n8_; have BK222 := n9_; have BK229 := n10_; have BK240 := n11_; have HB := n12_; clear n0_ n1_ n2_ n3_ n4_ n5_ n6_ n7_ n8_ n9_ n10_ n11_ n12_; (try clear hb); (try clear hb2); (try clear hk); (try clear hi); (try clear ho0); (try clear ho1)) | ((with_reducible refine gate_callee (f := 31) rfl ?_); refine goesL_ (some 96) rfl rfl Try.func31 (by kernel_rfl) rfl #[.slice A1 l1.length c1] rfl (by (try simp only [List.map_toArray, List.map_cons, List.map_nil]); first | done | rfl | (simp only [List.length_drop, List.length_take]; rfl)) ?_; (with_reducible refine (laws_toBoolS.calls kj77 _ _ l1 t269 _ ?side1 ?side2 A124.out).mono ?_); (case side1 => repeat (first | exact (cB HR1.out HB.out) | (with_reducible refine cA ?_ _) | (with_reducible refine cN ?_ _) | (with_reducible refine cD ?_))); (case side2 => exact HC1.out); rintro e w138 ⟨v270, rfl, ho0, hb⟩; refine ⟨_, rfl, ?_⟩; have n0_ := aM (xB (by (with_reducible repeat (first | apply xA | apply xN | apply xD)); exact HO_223000.out) hb); have n1_ := aM (xB (by (with_reducible repeat (first | apply xA | apply xN | apply xD)); exact HO_223001.out) hb); have n2_ := aM (xB (by (with_reducible repeat (first | apply xA | apply xN | apply xD)); exact HO_230000.out) hb); have n3_ := aM (xB (by (with_reducible repeat (first | apply xA | apply xN | apply xD)); exact HO_230001.out) hb); have n4_ := aM (xB (by (with_reducible repeat (first | apply xA | apply xN | apply xD)); exact HO_241000.out) hb); have n5_ := aM (xB (by (with_reducible repeat (first | apply xA | apply xN | apply xD)); exact HO_241001.out) hb); have n6_ := aM (xB (by (with_reducible repeat (first | apply xA | apply xN | apply xD)); exact HO265.out) hb); have n7_ := aM (xB (by (with_reducible repeat (first | apply xA | apply xN | apply xD)); exact HO268.out) hb); have n8_ := aM (xL ho0 (zZ (by repeat (first | (with_reducible first | exact HB.out | apply zA | apply zN | apply zD | refine zS ?_ GE204.out | refine zS ?_ GE222.out | refine zS ?_ GE229.out | refine zS ?_ GE240.out) | exact HB.out)))); have n9_ := aM (yB (g := gb204) (o := .cells #[.slice A0_0 l0_0.length c0_0, .slice A0_1 l0_1.length c0_1] 25 (0, 0)) (by (with_reducible repeat (first | refine yN ?_ _ | refine yD ?_ | refine yA ?_ _)); exact BK204.out) hb); have n10_ := aM (yB (g := gb222) (o := .cells #[.slice Ao28 t215.length co28, .slice Ao31 t218.length co31] 30 (0, 0)) (by (with_reducible repeat (first | refine yN ?_ _ | refine yD ?_ | refine yA ?_ _)); exact BK222.out) hb); have n11_ := aM (yB (g := gb229) (o := .cells #[.slice Ao35 t254.length co35, .slice Ao39 t255.length co39] 30 (0, 0)) (by (with_reducible repeat (first | refine yN ?_ _ | refine yD ?_ | refine yA ?_ _)); exact BK229.out) hb); have n12_ := aM (yB (g := gb240) (o := .cells #[.slice Ao45 t233.length co45, .slice Ao50 t236.length co50] 30 (0, 0)) (by (with_reducible repeat (first | refine yN ?_ _ | refine yD ?_ | refine yA ?_ _)); exact BK240.out) hb); have n13_ := aM (zT (by repeat (first | (with_reducible first | exact HB.out | apply zA | apply zN | apply zD | refine zS ?_ GE204.out | refine zS ?_ GE222.out | refine zS ?_ GE229.out | refine zS ?_ GE240.out) | exact HB.out)) hb); clear HO_223000; clear HO_223001; clear HO_230000; clear HO_230001; clear HO_241000; clear HO_241001; clear HO265; clear HO268; clear BK204; clear BK222; clear BK229; clear BK240; clear HB; have HO_223000 := n0_; have HO_223001 := n1_; have HO_230000 := n2_; have HO_230001 := n3_; have HO_241000 := n4_; have HO_241001 := n5_; have HO265 := n6_; have HO268 := n7_; have HO271 := n8_; have BK204 := n9_; have BK222 := n10_; have BK229 := n11_; have BK240 := n12_; have HB := n13_; clear n0_ n1_ n2_ n3_ n4_ n5_ n6_ n7_ n8_ n9_ n10_ n11_ n12_ n13_; (try clear hb); (try clear hb2); (try clear hk); (try clear hi); (try clear ho0); obtain ⟨Ao139, co139, eo139⟩ := Kd.R_slice HO265.out; subst eo139; obtain ⟨Ao140, co140, eo140⟩ := Kd.R_slice HO268.out; subst eo140; obtain ⟨Ao141, co141, eo141⟩ := Kd.R_slice HO271.out; subst eo141) | ((with_reducible refine gate_callee (f := 32) rfl ?_); refine goesL_ (some 97) rfl rfl Try.func32 (by kernel_rfl) rfl #[.agg #[.slice Ao139 t263.length co139, .slice Ao140 t266.length co140], .slice Ao141 t269.length co141] rfl (by (try simp only [List.map_toArray, List.map_cons, List.map_nil]); first | done | rfl | (simp only [List.length_drop, List.length_take]; rfl)) ?_; (with_reducible refine (impl_CrashDevice.calls _ _ t263 _ _ t266 _ _ t269 t272 t275 t278 _ ?side1 ?side2 ?side3 ?side4 ?side5 ?side6 A125.out).mono ?_); (case side1 => repeat (first | exact (Kd.R_reads' HO265.out).2.2 | (with_reducible refine cA ?_ _) | (with_reducible refine cN ?_ _) | (with_reducible refine cD ?_))); (case side2 => exact (Kd.R_reads' HO265.out).2.1); (case side3 => repeat (first | exact (Kd.R_reads' HO268.out).2.2 | (with_reducible refine cA ?_ _) | (with_reducible refine cN ?_ _) | (with_reducible refine cD ?_))); (case side4 => exact (Kd.R_reads' HO268.out).2.1); (case side5 => repeat (first | exact (Kd.R_reads' HO271.out).2.2 | (with_reducible refine cA ?_ _) | (with_reducible refine cN ?_ _) | (with_reducible refine cD ?_))); (case side6 => exact (Kd.R_reads' HO271.out).2.1); rintro e w142 ⟨v273, v276, rfl, ho0, ho1, hb⟩; refine ⟨_, rfl, ?_⟩; have n0_ := aM (Kd.R_elder' (by (with_reducible repeat (first | apply xA | apply xN | apply xD)); exact HO_223000.out) (Kd.R_base ho0) hb); have n1_ := aM (Kd.R_elder' (by (with_reducible repeat (first | apply xA | apply xN | apply xD)); exact HO_223001.out) (Kd.R_base ho1) hb); have n2_ := aM (Kd.R_elder' (by (with_reducible repeat (first | apply xA | apply xN | apply xD)); exact HO_230000.out) (Kd.R_base ho0) hb); have n3_ := aM (Kd.R_elder' (by (with_reducible repeat (first | apply xA | apply xN | apply xD)); exact HO_230001.out) (Kd.R_base ho1) hb); have n4_ := aM (Kd.R_elder' (by (with_reducible repeat (first | apply xA | apply xN | apply xD)); exact HO_241000.out) (Kd.R_base ho0) hb); have n5_ := aM (Kd.R_elder' (by (with_reducible repeat (first | apply xA | apply xN | apply xD)); exact HO_241001.out) (Kd.R_base ho1) hb); have n6_ := aM (Kd.R_elder' (by (with_reducible repeat (first | apply xA | apply xN | apply xD)); exact HO265.out) (Kd.R_base ho0) hb); have n7_ := aM (Kd.R_elder' (by (with_reducible repeat (first | apply xA | apply xN | apply xD)); exact HO268.out) (Kd.R_base ho1) hb); have n8_ := aM (xB (by (with_reducible repeat (first | apply xA | apply xN | apply xD)); exact HO271.out) hb); have n9_ := aM (xL (Kd.R_new' (Kd.R_new' (Kd.R_new' (Kd.R_new' ho0 (Kd.R_lt (by (with_reducible repeat (first | apply xA | apply xN | apply xD)); exact HO_223000.out))) (Kd.R_lt (by (with_reducible repeat (first | apply xA | apply xN | apply xD)); exact HO_230000.out))) (Kd.R_lt (by (with_reducible repeat (first | apply xA | apply xN | apply xD)); exact HO_241000.out))) (Kd.R_lt (by (with_reducible repeat (first | apply xA | apply xN | apply xD)); exact HO265.out))) (zZ (by repeat (first | (with_reducible first | exact HB.out | apply zA | apply zN | apply zD | refine zS ?_ GE204.out | refine zS ?_ GE222.out | refine zS ?_ GE229.out | refine zS ?_ GE240.out) | exact HB.out)))); have n10_ := aM (xL (Kd.R_new' (Kd.R_new' (Kd.R_new' (Kd.R_new' ho1 (Kd.R_lt (by (with_reducible repeat (first | apply xA | apply xN | apply xD)); exact HO_223001.out))) (Kd.R_lt (by (with_reducible repeat (first | apply xA | apply xN | apply xD)); exact HO_230001.out))) (Kd.R_lt (by (with_reducible repeat (first | apply xA | apply xN | apply xD)); exact HO_241001.out))) (Kd.R_lt (by (with_reducible repeat (first | apply xA | apply xN | apply xD)); exact HO268.out))) (zZ (by repeat (first | (with_reducible first | exact HB.out | apply zA | apply zN | apply zD | refine zS ?_ GE204.out | refine zS ?_ GE222.out | refine zS ?_ GE229.out | refine zS ?_ GE240.out) | exact HB.out)))); have n11_ := aM (yB (g := gb204) (o := .cells #[.slice A0_0 l0_0.length c0_0, .slice A0_1 l0_1.length c0_1] 25 (0, 0)) (by (with_reducible repeat (first | refine yN ?_ _ | refine yD ?_ | refine yA ?_ _)); exact BK204.out) hb); have n12_ := aM (yB (g := gb222) (o := .cells #[.slice Ao28 t215.length co28, .slice Ao31 t218.length co31] 30 (0, 0)) (by (with_reducible repeat (first | refine yN ?_ _ | refine yD ?_ | refine yA ?_ _)); exact BK222.out) hb); have n13_ := aM (yB (g := gb229) (o := .cells #[.slice Ao35 t254.length co35, .slice Ao39 t255.length co39] 30 (0, 0)) (by (with_reducible repeat (first | refine yN ?_ _ | refine yD ?_ | refine yA ?_ _)); exact BK229.out) hb); have n14_ := aM (yB (g := gb240) (o := .cells #[.slice Ao45 t233.length co45, .slice Ao50 t236.length co50] 30 (0, 0)) (by (with_reducible repeat (first | refine yN ?_ _ | refine yD ?_ | refine yA ?_ _)); exact BK240.out) hb); have n15_ := aM (zT (by repeat (first | (with_reducible first | exact HB.out | apply zA | apply zN | apply zD | refine zS ?_ GE204.out | refine zS ?_ GE222.out | refine zS ?_ GE229.out | refine zS ?_ GE240.out) | exact HB.out)) hb); clear HO_223000; clear HO_223001; clear HO_230000; clear HO_230001; clear HO_241000; clear HO_241001; clear HO265; clear HO268; clear HO271; clear BK204; clear BK222; clear BK229; clear BK240; clear HB; have HO_223000 := n0_; have HO_223001 := n1_; have HO_230000 := n2_; have HO_230001 := n3_; have HO_241000 := n4_; have HO_241001 := n5_; have HO265 := n6_; have HO268 := n7_; have HO271 := n8_; have HO274 := n9_; have HO277 := n10_; have BK204 := n11_; have BK222 := n12_; have BK229 := n13_; have BK240 := n14_; have HB := n15_; clear n0_ n1_ n2_ n3_ n4_ n5_ n6_ n7_ n8_ n9_ n10_ n11_ n12_ n13_ n14_ n15_; (try clear hb); (try clear hb2); (try clear hk); (try clear hi); (try clear ho0); (try clear ho1)) | ((with_reducible refine gate_dst (N := 15) rfl ?_); refine box_event ?hg (N := 15) ?hd (cs := #[.slice none 0 0, .slice none 0 0]) (t := 30) ?hr ?_; (case hd => rfl); (case hg => rfl); (case hr => first | (go_simp; done) | (go_simp; rfl)); intro gb279 hg w143 hbox hb; have n0_ := aM (xB (by (with_reducible repeat (first | apply xA | apply xN | apply xD)); exact HO_223000.out) hb); have n1_ := aM (xB (by (with_reducible repeat (first | apply xA | apply xN | apply xD)); exact HO_223001.out) hb); have n2_ := aM (xB (by (with_reducible repeat (first | apply xA | apply xN | apply xD)); exact HO_230000.out) hb); have n3_ := aM (xB (by (with_reducible repeat (first | apply xA | apply xN | apply xD)); exact HO_230001.out) hb); have n4_ := aM (xB (by (with_reducible repeat (first | apply xA | apply xN | apply xD)); exact HO_241000.out) hb); have n5_ := aM (xB (by (with_reducible repeat (first | apply xA | apply xN | apply xD)); exact HO_241001.out) hb); have n6_ := aM (xB (by (with_reducible repeat (first | apply xA | apply xN | apply xD)); exact HO265.out) hb); have n7_ := aM (xB (by (with_reducible repeat (first | apply xA | apply xN | apply xD)); exact HO268.out) hb); have n8_ := aM (xB (by (with_reducible repeat (first | apply xA | apply xN | apply xD)); exact HO271.out) hb); have n9_ := aM (xB (by (with_reducible repeat (first | apply xA | apply xN | apply xD)); exact HO274.out) hb); have n10_ := aM (xB (by (with_reducible repeat (first | apply xA | apply xN | apply xD)); exact HO277.out) hb); have n11_ := aM (yB (g := gb204) (o := .cells #[.slice A0_0 l0_0.length c0_0, .slice A0_1 l0_1.length c0_1] 25 (0, 0)) (by (with_reducible repeat (first | refine yN ?_ _ | refine yD ?_ | refine yA ?_ _)); exact BK204.out) hb); have n12_ := aM (yB (g := gb222) (o := .cells #[.slice Ao28 t215.length co28, .slice Ao31 t218.length co31] 30 (0, 0)) (by (with_reducible repeat (first | refine yN ?_ _ | refine yD ?_ | refine yA ?_ _)); exact BK222.out) hb); have n13_ := aM (yB (g := gb229) (o := .cells #[.slice Ao35 t254.length co35, .slice Ao39 t255.length co39] 30 (0, 0)) (by (with_reducible repeat (first | refine yN ?_ _ | refine yD ?_ | refine yA ?_ _)); exact BK229.out) hb); have n14_ := aM (yB (g := gb240) (o := .cells #[.slice Ao45 t233.length co45, .slice Ao50 t236.length co50] 30 (0, 0)) (by (with_reducible repeat (first | refine yN ?_ _ | refine yD ?_ | refine yA ?_ _)); exact BK240.out) hb); have n15_ := aM (zT (by repeat (first | (with_reducible first | exact HB.out | apply zA | apply zN | apply zD | refine zS ?_ GE204.out | refine zS ?_ GE222.out | refine zS ?_ GE229.out | refine zS ?_ GE240.out) | exact HB.out)) hb); have n16_ := aM (hbox); have n17_ := aM ((by rw [hg]; exact (zZ (by repeat (first | (with_reducible first | exact HB.out | apply zA | apply zN | apply zD | refine zS ?_ GE204.out | refine zS ?_ GE222.out | refine zS ?_ GE229.out | refine zS ?_ GE240.out) | exact HB.out))) : w.heap.size ≤ gb279)); have n18_ := aM ((by rw [hg]; exact (zZ (by repeat (first | (with_reducible first | exact HB.out | apply zA | apply zN | apply zD | refine zS ?_ GE204.out | refine zS ?_ GE222.out | refine zS ?_ GE229.out | refine zS ?_ GE240.out) | exact HB.out))) : w.heap.size ≤ gb279)); have n19_ := aM ((by rw [hg]; exact Nat.ne_of_lt (blk_lt (g := gb204) (o := .cells #[.slice A0_0 l0_0.length c0_0, .slice A0_1 l0_1.length c0_1] 25 (0, 0)) (by (with_reducible repeat (first | refine yN ?_ _ | refine yD ?_ | refine yA ?_ _)); exact BK204.out)) : gb204 ≠ gb279)); have n20_ := aM ((by rw [hg]; exact Nat.ne_of_gt (blk_lt (g := gb204) (o := .cells #[.slice A0_0 l0_0.length c0_0, .slice A0_1 l0_1.length c0_1] 25 (0, 0)) (by (with_reducible repeat (first | refine yN ?_ _ | refine yD ?_ | refine yA ?_ _)); exact BK204.out)) : gb279 ≠ gb204)); have n21_ := aM ((by rw [hg]; exact Nat.ne_of_lt (blk_lt (g := gb222) (o := .cells #[.slice Ao28 t215.length co28, .slice Ao31 t218.length co31] 30 (0, 0)) (by (with_reducible repeat (first | refine yN ?_ _ | refine yD ?_ | refine yA ?_ _)); exact BK222.out)) : gb222 ≠ gb279)); have n22_ := aM ((by rw [hg]; exact Nat.ne_of_gt (blk_lt (g := gb222) (o := .cells #[.slice Ao28 t215.length co28, .slice Ao31 t218.length co31] 30 (0, 0)) (by (with_reducible repeat (first | refine yN ?_ _ | refine yD ?_ | refine yA ?_ _)); exact BK222.out)) : gb279 ≠ gb222)); have n23_ := aM ((by rw [hg]; exact Nat.ne_of_lt (blk_lt (g := gb229) (o := .cells #[.slice Ao35 t254.length co35, .slice Ao39 t255.length co39] 30 (0, 0)) (by (with_reducible repeat (first | refine yN ?_ _ | refine yD ?_ | refine yA ?_ _)); exact BK229.out)) : gb229 ≠ gb279)); have n24_ := aM ((by rw [hg]; exact Nat.ne_of_gt (blk_lt (g := gb229) (o := .cells #[.slice Ao35 t254.length co35, .slice Ao39 t255.length co39] 30 (0, 0)) (by (with_reducible repeat (first | refine yN ?_ _ | refine yD ?_ | refine yA ?_ _)); exact BK229.out)) : gb279 ≠ gb229)); have n25_ := aM ((by rw [hg]; exact Nat.ne_of_lt (blk_lt (g := gb240) (o := .cells #[.slice Ao45 t233.length co45, .slice Ao50 t236.length co50] 30 (0, 0)) (by (with_reducible repeat (first | refine yN ?_ _ | refine yD ?_ | refine yA ?_ _)); exact BK240.out)) : gb240 ≠ gb279)); have n26_ := aM ((by rw [hg]; exact Nat.ne_of_gt (blk_lt (g := gb240) (o := .cells #[.slice Ao45 t233.length co45, .slice Ao50 t236.length co50] 30 (0, 0)) (by (with_reducible repeat (first | refine yN ?_ _ | refine yD ?_ | refine yA ?_ _)); exact BK240.out)) : gb279 ≠ gb240)); clear HO_223000; clear HO_223001; clear HO_230000; clear HO_230001; clear HO_241000; clear HO_241001; clear HO265; clear HO268; clear HO271; clear HO274; clear HO277; clear BK204; clear BK222; clear BK229; clear BK240; clear HB; have HO_223000 := n0_; have HO_223001 := n1_; have HO_230000 := n2_; have HO_230001 := n3_; have HO_241000 := n4_; have HO_241001 := n5_; have HO265 := n6_; have HO268 := n7_; have HO271 := n8_; have HO274 := n9_; have HO277 := n10_; have BK204 := n11_; have BK222 := n12_; have BK229 := n13_; have BK240 := n14_; have HB := n15_; have BK279 := n16_; have GW279 := n17_; have GE279 := n18_; have NB204_279 := n19_; have NB279_204 := n20_; have NB222_279 := n21_; have NB279_222 := n22_; have NB229_279 := n23_; have NB279_229 := n24_; have NB240_279 := n25_; have NB279_240 := n26_; clear n0_ n1_ n2_ n3_ n4_ n5_ n6_ n7_ n8_ n9_ n10_ n11_ n12_ n13_ n14_ n15_ n16_ n17_ n18_ n19_ n20_ n21_ n22_ n23_ n24_ n25_ n26_; clear hb hbox hg; obtain ⟨Ao144, co144, eo144⟩ := Kd.R_slice HO274.out; subst eo144; have hnb145 := NB279_204.out; have hnc145 := NB204_279.out; have hnb146 := NB279_222.out; have hnc146 := NB222_279.out; have hnb147 := NB279_229.out; have hnc147 := NB229_279.out; have hnb148 := NB279_240.out; have hnc148 := NB240_279.out; have hcz149_0 : w143.cell? ⟨gb279, 0, none⟩ = some (.slice none 0 0) := (yC BK279.out 0).trans rfl; have hcz149_1 : w143.cell? ⟨gb279, 1, none⟩ = some (.slice none 0 0) := (yC BK279.out 1).trans rfl; have hfz149_0 := yZ BK279.out 0; have hfz149_1 := yZ BK279.out 1; obtain ⟨Ao150, co150, eo150⟩ := Kd.R_slice HO277.out; subst eo150))
             (try simp only [Act.put, List.setIfInBounds_toArray, List.set_cons_zero, List.set_cons_succ])
             go_cut [108] (fun v108 wc => ∃ (kq : Nat) (x108_125 : Bool), v108 = .bool x108_125 ∧ Aside0 (laws_FnExactCrashDevice.j2 kq t259 x108_125 t260 t261 = some r) ∧ Aside0 (kq ≤ kj77) ∧ Aside0 (Kd.R Kd.string 9 wc w.heap.size (fun k_ => some k_ ≠ ((.slice Ao35 t254.length co35) : Value).ownBlock ∧ some k_ ≠ ((.slice Ao45 t233.length co45) : Value).ownBlock ∧ some k_ ≠ ((.slice Ao144 t272.length co144) : Value).ownBlock) (.slice Ao28 t215.length co28) t215) ∧ Aside0 (Kd.R k42 42 wc w.heap.size (fun k_ => some k_ ≠ ((.slice Ao39 t255.length co39) : Value).ownBlock ∧ some k_ ≠ ((.slice Ao50 t236.length co50) : Value).ownBlock ∧ some k_ ≠ ((.slice Ao150 t275.length co150) : Value).ownBlock) (.slice Ao31 t218.length co31) t218) ∧ Aside0 (Kd.R Kd.string 9 wc w.heap.size (fun k_ => some k_ ≠ ((.slice Ao28 t215.length co28) : Value).ownBlock ∧ some k_ ≠ ((.slice Ao45 t233.length co45) : Value).ownBlock ∧ some k_ ≠ ((.slice Ao144 t272.length co144) : Value).ownBlock) (.slice Ao35 t254.length co35) t254) ∧ Aside0 (Kd.R k42 42 wc w.heap.size (fun k_ => some k_ ≠ ((.slice Ao31 t218.length co31) : Value).ownBlock ∧ some k_ ≠ ((.slice Ao50 t236.length co50) : Value).ownBlock ∧ some k_ ≠ ((.slice Ao150 t275.length co150) : Value).ownBlock) (.slice Ao39 t255.length co39) t255) ∧ Aside0 (Kd.R Kd.string 9 wc w.heap.size (fun k_ => some k_ ≠ ((.slice Ao28 t215.length co28) : Value).ownBlock ∧ some k_ ≠ ((.slice Ao35 t254.length co35) : Value).ownBlock ∧ some k_ ≠ ((.slice Ao144 t272.length co144) : Value).ownBlock) (.slice Ao45 t233.length co45) t260) ∧ Aside0 (Kd.R k42 42 wc w.heap.size (fun k_ => some k_ ≠ ((.slice Ao31 t218.length co31) : Value).ownBlock ∧ some k_ ≠ ((.slice Ao39 t255.length co39) : Value).ownBlock ∧ some k_ ≠ ((.slice Ao150 t275.length co150) : Value).ownBlock) (.slice Ao50 t236.length co50) t261) ∧ Aside0 (Kd.R Kd.string 9 wc w.heap.size (fun k_ => some k_ ≠ ((.slice Ao28 t215.length co28) : Value).ownBlock ∧ some k_ ≠ ((.slice Ao35 t254.length co35) : Value).ownBlock ∧ some k_ ≠ ((.slice Ao45 t233.length co45) : Value).ownBlock) (.slice Ao144 t272.length co144) t272) ∧ Aside0 (Kd.R k42 42 wc w.heap.size (fun k_ => some k_ ≠ ((.slice Ao31 t218.length co31) : Value).ownBlock ∧ some k_ ≠ ((.slice Ao39 t255.length co39) : Value).ownBlock ∧ some k_ ≠ ((.slice Ao50 t236.length co50) : Value).ownBlock) (.slice Ao150 t275.length co150) t275) ∧ Aside0 (wc.heap[gb204]? = some (.cells #[(.slice A0_0 l0_0.length c0_0), (.slice A0_1 l0_1.length c0_1)] 25 (0, 0))) ∧ Aside0 (wc.heap[gb222]? = some (.cells #[(.slice Ao28 t215.length co28), (.slice Ao31 t218.length co31)] 30 (0, 0))) ∧ Aside0 (wc.heap[gb229]? = some (.cells #[(.slice Ao35 t254.length co35), (.slice Ao39 t255.length co39)] 30 (0, 0))) ∧ Aside0 (wc.heap[gb240]? = some (.cells #[(.slice Ao45 t233.length co45), (.slice Ao50 t236.length co50)] 30 (0, 0))) ∧ Aside0 (wc.heap[gb279]? = some (.cells #[(.slice Ao144 t272.length co144), (.slice Ao150 t275.length co150)] 30 (0, 0))) ∧ Aside0 (Below w.heap.size w wc))
             case first =>
              have H := HC126.out
              clear HC126
              replace H := Option.bind_eq_some_iff.mp H
              obtain ⟨t280, A1510, H⟩ := H
              replace H : (if t280 = true then (laws_FnExactCrashDevice.j2 kj77 t259 (t278 != t221) t260 t261) else (laws_FnExactCrashDevice.j2 kj77 t259 true t260 t261)) = some r := H
              have A151 := aM A1510
              clear A1510
              by_cases c152 : t280 = true
              ·subst c152
               have H1 : (laws_FnExactCrashDevice.j2 kj77 t259 (t278 != t221) t260 t261) = some r := by rw [if_pos rfl] at H; exact H
               clear H
               have H := H1
               clear H1
               have H' := aM H
               clear H
               have hnb153 := NB279_204.out
               have hnc153 := NB204_279.out
               have hnb154 := NB279_222.out
               have hnc154 := NB222_279.out
               have hnb155 := NB279_229.out
               have hnc155 := NB229_279.out
               have hnb156 := NB279_240.out
               have hnc156 := NB240_279.out
               have hcz157_0 : w143.cell? ⟨gb279, 0, none⟩ = some (.slice none 0 0) := (yC BK279.out 0).trans rfl
               have hcz157_1 : w143.cell? ⟨gb279, 1, none⟩ = some (.slice none 0 0) := (yC BK279.out 1).trans rfl
               have hfz157_0 := yZ BK279.out 0
               have hfz157_1 := yZ BK279.out 1
               have hnb158 := NB222_204.out
               have hnc158 := NB204_222.out
               have hnb159 := NB222_229.out
               have hnc159 := NB229_222.out
               have hnb160 := NB222_240.out
               have hnc160 := NB240_222.out
               have hcz161_0 : w143.cell? ⟨gb222, 0, none⟩ = some (.slice Ao28 t215.length co28) := (yC BK222.out 0).trans rfl
               have hcz161_1 : w143.cell? ⟨gb222, 1, none⟩ = some (.slice Ao31 t218.length co31) := (yC BK222.out 1).trans rfl
               have hfz161_0 := yZ BK222.out 0
               have hfz161_1 := yZ BK222.out 1
               go_wp2_with (first | ((with_reducible refine gate_callee (f := 17) rfl ?_); refine goesL_ (some 102) rfl rfl Try.func17 (by kernel_rfl) rfl #[.agg #[.slice Ao144 t272.length co144, .slice Ao150 t275.length co150], .agg #[.slice Ao28 t215.length co28, .slice Ao31 t218.length co31]] rfl (by (try simp only [List.map_toArray, List.map_cons, List.map_nil]); first | done | rfl | (simp only [List.length_drop, List.length_take]; rfl)) ?_; (with_reducible refine (laws_eqDevice.calls kj77 _ _ t272 _ _ t275 _ _ t215 _ _ t218 true _ ?side1 ?side2 ?side3 ?side4 ?side5 ?side6 ?side7 ?side8 A151.out).mono ?_); (case side1 => refine (Kd.R_reads' (e := 9) (base := w.heap.size) (ok := fun k_ => ((((True ∧ some k_ ≠ (.slice Ao28 t215.length co28 : Value).ownBlock) ∧ some k_ ≠ (.slice Ao35 t254.length co35 : Value).ownBlock) ∧ some k_ ≠ (.slice Ao45 t233.length co45 : Value).ownBlock) ∧ some k_ ≠ (.slice Ao139 t263.length co139 : Value).ownBlock)) (n := t272.length) (c := co144) ?_).2.2; exact (by (with_reducible repeat (first | apply xA | apply xN | apply xD)); exact (xM (xF (p := ⟨gb279, 1, none⟩) (xF (p := ⟨gb279, 0, none⟩) (xT HO274.out BK279.out (by decide)) (fun _ hk => hk.2) (.slice Ao144 t272.length co144)) (fun _ hk => hk.2) (.slice Ao150 t275.length co150)) (fun _ h_ => h_.1)))); (case side2 => exact (Kd.R_reads' HO274.out).2.1); (case side3 => refine (Kd.R_reads' (e := 42) (base := w.heap.size) (ok := fun k_ => ((((True ∧ some k_ ≠ (.slice Ao31 t218.length co31 : Value).ownBlock) ∧ some k_ ≠ (.slice Ao39 t255.length co39 : Value).ownBlock) ∧ some k_ ≠ (.slice Ao50 t236.length co50 : Value).ownBlock) ∧ some k_ ≠ (.slice Ao140 t266.length co140 : Value).ownBlock)) (n := t275.length) (c := co150) ?_).2.2; exact (by (with_reducible repeat (first | apply xA | apply xN | apply xD)); exact (xM (xF (p := ⟨gb279, 1, none⟩) (xF (p := ⟨gb279, 0, none⟩) (xT HO277.out BK279.out (by decide)) (fun _ hk => hk.2) (.slice Ao144 t272.length co144)) (fun _ hk => hk.2) (.slice Ao150 t275.length co150)) (fun _ h_ => h_.1)))); (case side4 => exact (Kd.R_reads' HO277.out).2.1); (case side5 => refine (Kd.R_reads' (e := 9) (base := w.heap.size) (ok := fun k_ => (((some k_ ≠ (.slice Ao35 t254.length co35 : Value).ownBlock ∧ some k_ ≠ (.slice Ao45 t233.length co45 : Value).ownBlock) ∧ some k_ ≠ (.slice Ao139 t263.length co139 : Value).ownBlock) ∧ some k_ ≠ (.slice Ao144 t272.length co144 : Value).ownBlock)) (n := t215.length) (c := co28) ?_).2.2; exact (by (with_reducible repeat (first | apply xA | apply xN | apply xD)); exact (xM (xF (p := ⟨gb279, 1, none⟩) (xF (p := ⟨gb279, 0, none⟩) (xT HO_223000.out BK279.out (by decide)) (fun _ hk => hk.2) (.slice Ao144 t272.length co144)) (fun _ hk => hk.2) (.slice Ao150 t275.length co150)) (fun _ h_ => h_.1)))); (case side6 => exact (Kd.R_reads' HO_223000.out).2.1); (case side7 => refine (Kd.R_reads' (e := 42) (base := w.heap.size) (ok := fun k_ => (((some k_ ≠ (.slice Ao39 t255.length co39 : Value).ownBlock ∧ some k_ ≠ (.slice Ao50 t236.length co50 : Value).ownBlock) ∧ some k_ ≠ (.slice Ao140 t266.length co140 : Value).ownBlock) ∧ some k_ ≠ (.slice Ao150 t275.length co150 : Value).ownBlock)) (n := t218.length) (c := co31) ?_).2.2; exact (by (with_reducible repeat (first | apply xA | apply xN | apply xD)); exact (xM (xF (p := ⟨gb279, 1, none⟩) (xF (p := ⟨gb279, 0, none⟩) (xT HO_223001.out BK279.out (by decide)) (fun _ hk => hk.2) (.slice Ao144 t272.length co144)) (fun _ hk => hk.2) (.slice Ao150 t275.length co150)) (fun _ h_ => h_.1)))); (case side8 => exact (Kd.R_reads' HO_223001.out).2.1); rintro e w162 ⟨rfl, hb⟩; refine ⟨_, rfl, ?_⟩; have n0_ := aM (xB (by (with_reducible repeat (first | apply xA | apply xN | apply xD)); exact (xM (xF (p := ⟨gb279, 1, none⟩) (xF (p := ⟨gb279, 0, none⟩) (xT HO_223000.out BK279.out (by decide)) (fun _ hk => hk.2) (.slice Ao144 t272.length co144)) (fun _ hk => hk.2) (.slice Ao150 t275.length co150)) (fun _ h_ => h_.1))) hb); have n1_ := aM (xB (by (with_reducible repeat (first | apply xA | apply xN | apply xD)); exact (xM (xF (p := ⟨gb279, 1, none⟩) (xF (p := ⟨gb279, 0, none⟩) (xT HO_223001.out BK279.out (by decide)) (fun _ hk => hk.2) (.slice Ao144 t272.length co144)) (fun _ hk => hk.2) (.slice Ao150 t275.length co150)) (fun _ h_ => h_.1))) hb); have n2_ := aM (xB (by (with_reducible repeat (first | apply xA | apply xN | apply xD)); exact (xM (xF (p := ⟨gb279, 1, none⟩) (xF (p := ⟨gb279, 0, none⟩) (xT HO_230000.out BK279.out (by decide)) (fun _ hk => hk.2) (.slice Ao144 t272.length co144)) (fun _ hk => hk.2) (.slice Ao150 t275.length co150)) (fun _ h_ => h_.1))) hb); have n3_ := aM (xB (by (with_reducible repeat (first | apply xA | apply xN | apply xD)); exact (xM (xF (p := ⟨gb279, 1, none⟩) (xF (p := ⟨gb279, 0, none⟩) (xT HO_230001.out BK279.out (by decide)) (fun _ hk => hk.2) (.slice Ao144 t272.length co144)) (fun _ hk => hk.2) (.slice Ao150 t275.length co150)) (fun _ h_ => h_.1))) hb); have n4_ := aM (xB (by (with_reducible repeat (first | apply xA | apply xN | apply xD)); exact (xM (xF (p := ⟨gb279, 1, none⟩) (xF (p := ⟨gb279, 0, none⟩) (xT HO_241000.out BK279.out (by decide)) (fun _ hk => hk.2) (.slice Ao144 t272.length co144)) (fun _ hk => hk.2) (.slice Ao150 t275.length co150)) (fun _ h_ => h_.1))) hb); have n5_ := aM (xB (by (with_reducible repeat (first | apply xA | apply xN | apply xD)); exact (xM (xF (p := ⟨gb279, 1, none⟩) (xF (p := ⟨gb279, 0, none⟩) (xT HO_241001.out BK279.out (by decide)) (fun _ hk => hk.2) (.slice Ao144 t272.length co144)) (fun _ hk => hk.2) (.slice Ao150 t275.length co150)) (fun _ h_ => h_.1))) hb); have n6_ := aM (xB (by (with_reducible repeat (first | apply xA | apply xN | apply xD)); exact (xM (xF (p := ⟨gb279, 1, none⟩) (xF (p := ⟨gb279, 0, none⟩) (xT HO265.out BK279.out (by decide)) (fun _ hk => hk.2) (.slice Ao144 t272.length co144)) (fun _ hk => hk.2) (.slice Ao150 t275.length co150)) (fun _ h_ => h_.1))) hb); have n7_ := aM (xB (by (with_reducible repeat (first | apply xA | apply xN | apply xD)); exact (xM (xF (p := ⟨gb279, 1, none⟩) (xF (p := ⟨gb279, 0, none⟩) (xT HO268.out BK279.out (by decide)) (fun _ hk => hk.2) (.slice Ao144 t272.length co144)) (fun _ hk => hk.2) (.slice Ao150 t275.length co150)) (fun _ h_ => h_.1))) hb); have n8_ := aM (xB (by (with_reducible repeat (first | apply xA | apply xN | apply xD)); exact (xM (xF (p := ⟨gb279, 1, none⟩) (xF (p := ⟨gb279, 0, none⟩) (xT HO271.out BK279.out (by decide)) (fun _ hk => hk.2) (.slice Ao144 t272.length co144)) (fun _ hk => hk.2) (.slice Ao150 t275.length co150)) (fun _ h_ => h_.1))) hb); have n9_ := aM (xB (by (with_reducible repeat (first | apply xA | apply xN | apply xD)); exact (xM (xF (p := ⟨gb279, 1, none⟩) (xF (p := ⟨gb279, 0, none⟩) (xT HO274.out BK279.out (by decide)) (fun _ hk => hk.2) (.slice Ao144 t272.length co144)) (fun _ hk => hk.2) (.slice Ao150 t275.length co150)) (fun _ h_ => h_.1))) hb); have n10_ := aM (xB (by (with_reducible repeat (first | apply xA | apply xN | apply xD)); exact (xM (xF (p := ⟨gb279, 1, none⟩) (xF (p := ⟨gb279, 0, none⟩) (xT HO277.out BK279.out (by decide)) (fun _ hk => hk.2) (.slice Ao144 t272.length co144)) (fun _ hk => hk.2) (.slice Ao150 t275.length co150)) (fun _ h_ => h_.1))) hb); have n11_ := aM (yB (g := gb204) (o := .cells #[.slice A0_0 l0_0.length c0_0, .slice A0_1 l0_1.length c0_1] 25 (0, 0)) (by (with_reducible repeat (first | refine yN ?_ _ | refine yD ?_ | refine yA ?_ _)); refine yF ?_ NB204_279.out _; (with_reducible repeat (first | refine yN ?_ _ | refine yD ?_ | refine yA ?_ _)); refine yF ?_ NB204_279.out _; (with_reducible repeat (first | refine yN ?_ _ | refine yD ?_ | refine yA ?_ _)); exact BK204.out) hb); have n12_ := aM (yB (g := gb222) (o := .cells #[.slice Ao28 t215.length co28, .slice Ao31 t218.length co31] 30 (0, 0)) (by (with_reducible repeat (first | refine yN ?_ _ | refine yD ?_ | refine yA ?_ _)); refine yF ?_ NB222_279.out _; (with_reducible repeat (first | refine yN ?_ _ | refine yD ?_ | refine yA ?_ _)); refine yF ?_ NB222_279.out _; (with_reducible repeat (first | refine yN ?_ _ | refine yD ?_ | refine yA ?_ _)); exact BK222.out) hb); have n13_ := aM (yB (g := gb229) (o := .cells #[.slice Ao35 t254.length co35, .slice Ao39 t255.length co39] 30 (0, 0)) (by (with_reducible repeat (first | refine yN ?_ _ | refine yD ?_ | refine yA ?_ _)); refine yF ?_ NB229_279.out _; (with_reducible repeat (first | refine yN ?_ _ | refine yD ?_ | refine yA ?_ _)); refine yF ?_ NB229_279.out _; (with_reducible repeat (first | refine yN ?_ _ | refine yD ?_ | refine yA ?_ _)); exact BK229.out) hb); have n14_ := aM (yB (g := gb240) (o := .cells #[.slice Ao45 t233.length co45, .slice Ao50 t236.length co50] 30 (0, 0)) (by (with_reducible repeat (first | refine yN ?_ _ | refine yD ?_ | refine yA ?_ _)); refine yF ?_ NB240_279.out _; (with_reducible repeat (first | refine yN ?_ _ | refine yD ?_ | refine yA ?_ _)); refine yF ?_ NB240_279.out _; (with_reducible repeat (first | refine yN ?_ _ | refine yD ?_ | refine yA ?_ _)); exact BK240.out) hb); have n15_ := aM (yB (g := gb279) (o := .cells #[.slice Ao144 t272.length co144, .slice Ao150 t275.length co150] 30 (0, 0)) (by (with_reducible repeat (first | refine yN ?_ _ | refine yD ?_ | refine yA ?_ _)); refine yP (cs := #[.slice Ao144 t272.length co144, .slice none 0 0]) ?_ 1 _ rfl; (with_reducible repeat (first | refine yN ?_ _ | refine yD ?_ | refine yA ?_ _)); refine yP (cs := #[.slice none 0 0, .slice none 0 0]) ?_ 0 _ rfl; (with_reducible repeat (first | refine yN ?_ _ | refine yD ?_ | refine yA ?_ _)); exact BK279.out) hb); have n16_ := aM (zT (by repeat (first | (with_reducible first | exact HB.out | apply zA | apply zN | apply zD | refine zS ?_ GE204.out | refine zS ?_ GE222.out | refine zS ?_ GE229.out | refine zS ?_ GE240.out | refine zS ?_ GE279.out) | exact HB.out)) hb); clear HO_223000; clear HO_223001; clear HO_230000; clear HO_230001; clear HO_241000; clear HO_241001; clear HO265; clear HO268; clear HO271; clear HO274; clear HO277; clear BK204; clear BK222; clear BK229; clear BK240; clear BK279; clear HB; have HO_223000 := n0_; have HO_223001 := n1_; have HO_230000 := n2_; have HO_230001 := n3_; have HO_241000 := n4_; have HO_241001 := n5_; have HO265 := n6_; have HO268 := n7_; have HO271 := n8_; have HO274 := n9_; have HO277 := n10_; have BK204 := n11_; have BK222 := n12_; have BK229 := n13_; have BK240 := n14_; have BK279 := n15_; have HB := n16_; clear n0_ n1_ n2_ n3_ n4_ n5_ n6_ n7_ n8_ n9_ n10_ n11_ n12_ n13_ n14_ n15_ n16_; (try clear hb); (try clear hb2); (try clear hk); (try clear hi)))
               go_meet
               case rel => exact ⟨_, ((t278 != t221)), (by first | rfl | (simp; done) | (simp [*]; done)), H', ⟨by have := HJ15.out; have := HJ77.out; first | omega | exact Nat.le_refl _⟩, ⟨by (try simp only [hl230000_77]); (try simp only [hl230001_77]); (with_reducible repeat (first | apply xA | apply xN | apply xD)); exact xM HO_223000.out (fun _ hk => ⟨hk.1.1.1, ⟨hk.1.1.2, hk.2⟩⟩)⟩, ⟨by (try simp only [hl230000_77]); (try simp only [hl230001_77]); (with_reducible repeat (first | apply xA | apply xN | apply xD)); exact xM HO_223001.out (fun _ hk => ⟨hk.1.1.1, ⟨hk.1.1.2, hk.2⟩⟩)⟩, ⟨by (try simp only [hl230000_77]); (try simp only [hl230001_77]); (with_reducible repeat (first | apply xA | apply xN | apply xD)); exact xM HO_230000.out (fun _ hk => ⟨hk.1.1.1, ⟨hk.1.1.2, hk.2⟩⟩)⟩, ⟨by (try simp only [hl230000_77]); (try simp only [hl230001_77]); (with_reducible repeat (first | apply xA | apply xN | apply xD)); exact xM HO_230001.out (fun _ hk => ⟨hk.1.1.1, ⟨hk.1.1.2, hk.2⟩⟩)⟩, ⟨by (try simp only [hl230000_77]); (try simp only [hl230001_77]); (with_reducible repeat (first | apply xA | apply xN | apply xD)); exact xM HO_241000.out (fun _ hk => ⟨hk.1.1.1, ⟨hk.1.1.2, hk.2⟩⟩)⟩, ⟨by (try simp only [hl230000_77]); (try simp only [hl230001_77]); (with_reducible repeat (first | apply xA | apply xN | apply xD)); exact xM HO_241001.out (fun _ hk => ⟨hk.1.1.1, ⟨hk.1.1.2, hk.2⟩⟩)⟩, ⟨by (try simp only [hl230000_77]); (try simp only [hl230001_77]); (with_reducible repeat (first | apply xA | apply xN | apply xD)); exact xM HO274.out (fun _ hk => ⟨hk.1.1.1.2, ⟨hk.1.1.2, hk.1.2⟩⟩)⟩, ⟨by (try simp only [hl230000_77]); (try simp only [hl230001_77]); (with_reducible repeat (first | apply xA | apply xN | apply xD)); exact xM HO277.out (fun _ hk => ⟨hk.1.1.1.2, ⟨hk.1.1.2, hk.1.2⟩⟩)⟩, ⟨by (try simp only [hl230000_77]); (try simp only [hl230001_77]); (with_reducible repeat (first | refine yN ?_ _ | refine yD ?_ | refine yA ?_ _)); exact BK204.out⟩, ⟨by (try simp only [hl230000_77]); (try simp only [hl230001_77]); (with_reducible repeat (first | refine yN ?_ _ | refine yD ?_ | refine yA ?_ _)); exact BK222.out⟩, ⟨by (try simp only [hl230000_77]); (try simp only [hl230001_77]); (with_reducible repeat (first | refine yN ?_ _ | refine yD ?_ | refine yA ?_ _)); exact BK229.out⟩, ⟨by (try simp only [hl230000_77]); (try simp only [hl230001_77]); (with_reducible repeat (first | refine yN ?_ _ | refine yD ?_ | refine yA ?_ _)); exact BK240.out⟩, ⟨by (try simp only [hl230000_77]); (try simp only [hl230001_77]); (with_reducible repeat (first | refine yN ?_ _ | refine yD ?_ | refine yA ?_ _)); exact BK279.out⟩, ⟨by repeat (first | (with_reducible first | exact HB.out | apply zA | apply zN | apply zD | refine zS ?_ GE204.out | refine zS ?_ GE222.out | refine zS ?_ GE229.out | refine zS ?_ GE240.out | refine zS ?_ GE279.out) | exact HB.out)⟩⟩
              ·replace c152 := Bool.eq_false_iff.mpr c152
               subst c152
               have H1 : (laws_FnExactCrashDevice.j2 kj77 t259 true t260 t261) = some r := by rw [if_neg (show ¬ (false = true) by decide)] at H; exact H
               clear H
               have H := H1
               clear H1
               have H' := aM H
               clear H
               have hnb163 := NB279_204.out
               have hnc163 := NB204_279.out
               have hnb164 := NB279_222.out
               have hnc164 := NB222_279.out
               have hnb165 := NB279_229.out
               have hnc165 := NB229_279.out
               have hnb166 := NB279_240.out
               have hnc166 := NB240_279.out
               have hcz167_0 : w143.cell? ⟨gb279, 0, none⟩ = some (.slice none 0 0) := (yC BK279.out 0).trans rfl
               have hcz167_1 : w143.cell? ⟨gb279, 1, none⟩ = some (.slice none 0 0) := (yC BK279.out 1).trans rfl
               have hfz167_0 := yZ BK279.out 0
               have hfz167_1 := yZ BK279.out 1
               have hnb168 := NB222_204.out
               have hnc168 := NB204_222.out
               have hnb169 := NB222_229.out
               have hnc169 := NB229_222.out
               have hnb170 := NB222_240.out
               have hnc170 := NB240_222.out
               have hcz171_0 : w143.cell? ⟨gb222, 0, none⟩ = some (.slice Ao28 t215.length co28) := (yC BK222.out 0).trans rfl
               have hcz171_1 : w143.cell? ⟨gb222, 1, none⟩ = some (.slice Ao31 t218.length co31) := (yC BK222.out 1).trans rfl
               have hfz171_0 := yZ BK222.out 0
               have hfz171_1 := yZ BK222.out 1
               go_wp2_with (first | ((with_reducible refine gate_callee (f := 17) rfl ?_); refine goesL_ (some 102) rfl rfl Try.func17 (by kernel_rfl) rfl #[.agg #[.slice Ao144 t272.length co144, .slice Ao150 t275.length co150], .agg #[.slice Ao28 t215.length co28, .slice Ao31 t218.length co31]] rfl (by (try simp only [List.map_toArray, List.map_cons, List.map_nil]); first | done | rfl | (simp only [List.length_drop, List.length_take]; rfl)) ?_; (with_reducible refine (laws_eqDevice.calls kj77 _ _ t272 _ _ t275 _ _ t215 _ _ t218 false _ ?side1 ?side2 ?side3 ?side4 ?side5 ?side6 ?side7 ?side8 A151.out).mono ?_); (case side1 => refine (Kd.R_reads' (e := 9) (base := w.heap.size) (ok := fun k_ => ((((True ∧ some k_ ≠ (.slice Ao28 t215.length co28 : Value).ownBlock) ∧ some k_ ≠ (.slice Ao35 t254.length co35 : Value).ownBlock) ∧ some k_ ≠ (.slice Ao45 t233.length co45 : Value).ownBlock) ∧ some k_ ≠ (.slice Ao139 t263.length co139 : Value).ownBlock)) (n := t272.length) (c := co144) ?_).2.2; exact (by (with_reducible repeat (first | apply xA | apply xN | apply xD)); exact (xM (xF (p := ⟨gb279, 1, none⟩) (xF (p := ⟨gb279, 0, none⟩) (xT HO274.out BK279.out (by decide)) (fun _ hk => hk.2) (.slice Ao144 t272.length co144)) (fun _ hk => hk.2) (.slice Ao150 t275.length co150)) (fun _ h_ => h_.1)))); (case side2 => exact (Kd.R_reads' HO274.out).2.1); (case side3 => refine (Kd.R_reads' (e := 42) (base := w.heap.size) (ok := fun k_ => ((((True ∧ some k_ ≠ (.slice Ao31 t218.length co31 : Value).ownBlock) ∧ some k_ ≠ (.slice Ao39 t255.length co39 : Value).ownBlock) ∧ some k_ ≠ (.slice Ao50 t236.length co50 : Value).ownBlock) ∧ some k_ ≠ (.slice Ao140 t266.length co140 : Value).ownBlock)) (n := t275.length) (c := co150) ?_).2.2; exact (by (with_reducible repeat (first | apply xA | apply xN | apply xD)); exact (xM (xF (p := ⟨gb279, 1, none⟩) (xF (p := ⟨gb279, 0, none⟩) (xT HO277.out BK279.out (by decide)) (fun _ hk => hk.2) (.slice Ao144 t272.length co144)) (fun _ hk => hk.2) (.slice Ao150 t275.length co150)) (fun _ h_ => h_.1)))); (case side4 => exact (Kd.R_reads' HO277.out).2.1); (case side5 => refine (Kd.R_reads' (e := 9) (base := w.heap.size) (ok := fun k_ => (((some k_ ≠ (.slice Ao35 t254.length co35 : Value).ownBlock ∧ some k_ ≠ (.slice Ao45 t233.length co45 : Value).ownBlock) ∧ some k_ ≠ (.slice Ao139 t263.length co139 : Value).ownBlock) ∧ some k_ ≠ (.slice Ao144 t272.length co144 : Value).ownBlock)) (n := t215.length) (c := co28) ?_).2.2; exact (by (with_reducible repeat (first | apply xA | apply xN | apply xD)); exact (xM (xF (p := ⟨gb279, 1, none⟩) (xF (p := ⟨gb279, 0, none⟩) (xT HO_223000.out BK279.out (by decide)) (fun _ hk => hk.2) (.slice Ao144 t272.length co144)) (fun _ hk => hk.2) (.slice Ao150 t275.length co150)) (fun _ h_ => h_.1)))); (case side6 => exact (Kd.R_reads' HO_223000.out).2.1); (case side7 => refine (Kd.R_reads' (e := 42) (base := w.heap.size) (ok := fun k_ => (((some k_ ≠ (.slice Ao39 t255.length co39 : Value).ownBlock ∧ some k_ ≠ (.slice Ao50 t236.length co50 : Value).ownBlock) ∧ some k_ ≠ (.slice Ao140 t266.length co140 : Value).ownBlock) ∧ some k_ ≠ (.slice Ao150 t275.length co150 : Value).ownBlock)) (n := t218.length) (c := co31) ?_).2.2; exact (by (with_reducible repeat (first | apply xA | apply xN | apply xD)); exact (xM (xF (p := ⟨gb279, 1, none⟩) (xF (p := ⟨gb279, 0, none⟩) (xT HO_223001.out BK279.out (by decide)) (fun _ hk => hk.2) (.slice Ao144 t272.length co144)) (fun _ hk => hk.2) (.slice Ao150 t275.length co150)) (fun _ h_ => h_.1)))); (case side8 => exact (Kd.R_reads' HO_223001.out).2.1); rintro e w172 ⟨rfl, hb⟩; refine ⟨_, rfl, ?_⟩; have n0_ := aM (xB (by (with_reducible repeat (first | apply xA | apply xN | apply xD)); exact (xM (xF (p := ⟨gb279, 1, none⟩) (xF (p := ⟨gb279, 0, none⟩) (xT HO_223000.out BK279.out (by decide)) (fun _ hk => hk.2) (.slice Ao144 t272.length co144)) (fun _ hk => hk.2) (.slice Ao150 t275.length co150)) (fun _ h_ => h_.1))) hb); have n1_ := aM (xB (by (with_reducible repeat (first | apply xA | apply xN | apply xD)); exact (xM (xF (p := ⟨gb279, 1, none⟩) (xF (p := ⟨gb279, 0, none⟩) (xT HO_223001.out BK279.out (by decide)) (fun _ hk => hk.2) (.slice Ao144 t272.length co144)) (fun _ hk => hk.2) (.slice Ao150 t275.length co150)) (fun _ h_ => h_.1))) hb); have n2_ := aM (xB (by (with_reducible repeat (first | apply xA | apply xN | apply xD)); exact (xM (xF (p := ⟨gb279, 1, none⟩) (xF (p := ⟨gb279, 0, none⟩) (xT HO_230000.out BK279.out (by decide)) (fun _ hk => hk.2) (.slice Ao144 t272.length co144)) (fun _ hk => hk.2) (.slice Ao150 t275.length co150)) (fun _ h_ => h_.1))) hb); have n3_ := aM (xB (by (with_reducible repeat (first | apply xA | apply xN | apply xD)); exact (xM (xF (p := ⟨gb279, 1, none⟩) (xF (p := ⟨gb279, 0, none⟩) (xT HO_230001.out BK279.out (by decide)) (fun _ hk => hk.2) (.slice Ao144 t272.length co144)) (fun _ hk => hk.2) (.slice Ao150 t275.length co150)) (fun _ h_ => h_.1))) hb); have n4_ := aM (xB (by (with_reducible repeat (first | apply xA | apply xN | apply xD)); exact (xM (xF (p := ⟨gb279, 1, none⟩) (xF (p := ⟨gb279, 0, none⟩) (xT HO_241000.out BK279.out (by decide)) (fun _ hk => hk.2) (.slice Ao144 t272.length co144)) (fun _ hk => hk.2) (.slice Ao150 t275.length co150)) (fun _ h_ => h_.1))) hb); have n5_ := aM (xB (by (with_reducible repeat (first | apply xA | apply xN | apply xD)); exact (xM (xF (p := ⟨gb279, 1, none⟩) (xF (p := ⟨gb279, 0, none⟩) (xT HO_241001.out BK279.out (by decide)) (fun _ hk => hk.2) (.slice Ao144 t272.length co144)) (fun _ hk => hk.2) (.slice Ao150 t275.length co150)) (fun _ h_ => h_.1))) hb); have n6_ := aM (xB (by (with_reducible repeat (first | apply xA | apply xN | apply xD)); exact (xM (xF (p := ⟨gb279, 1, none⟩) (xF (p := ⟨gb279, 0, none⟩) (xT HO265.out BK279.out (by decide)) (fun _ hk => hk.2) (.slice Ao144 t272.length co144)) (fun _ hk => hk.2) (.slice Ao150 t275.length co150)) (fun _ h_ => h_.1))) hb); have n7_ := aM (xB (by (with_reducible repeat (first | apply xA | apply xN | apply xD)); exact (xM (xF (p := ⟨gb279, 1, none⟩) (xF (p := ⟨gb279, 0, none⟩) (xT HO268.out BK279.out (by decide)) (fun _ hk => hk.2) (.slice Ao144 t272.length co144)) (fun _ hk => hk.2) (.slice Ao150 t275.length co150)) (fun _ h_ => h_.1))) hb); have n8_ := aM (xB (by (with_reducible repeat (first | apply xA | apply xN | apply xD)); exact (xM (xF (p := ⟨gb279, 1, none⟩) (xF (p := ⟨gb279, 0, none⟩) (xT HO271.out BK279.out (by decide)) (fun _ hk => hk.2) (.slice Ao144 t272.length co144)) (fun _ hk => hk.2) (.slice Ao150 t275.length co150)) (fun _ h_ => h_.1))) hb); have n9_ := aM (xB (by (with_reducible repeat (first | apply xA | apply xN | apply xD)); exact (xM (xF (p := ⟨gb279, 1, none⟩) (xF (p := ⟨gb279, 0, none⟩) (xT HO274.out BK279.out (by decide)) (fun _ hk => hk.2) (.slice Ao144 t272.length co144)) (fun _ hk => hk.2) (.slice Ao150 t275.length co150)) (fun _ h_ => h_.1))) hb); have n10_ := aM (xB (by (with_reducible repeat (first | apply xA | apply xN | apply xD)); exact (xM (xF (p := ⟨gb279, 1, none⟩) (xF (p := ⟨gb279, 0, none⟩) (xT HO277.out BK279.out (by decide)) (fun _ hk => hk.2) (.slice Ao144 t272.length co144)) (fun _ hk => hk.2) (.slice Ao150 t275.length co150)) (fun _ h_ => h_.1))) hb); have n11_ := aM (yB (g := gb204) (o := .cells #[.slice A0_0 l0_0.length c0_0, .slice A0_1 l0_1.length c0_1] 25 (0, 0)) (by (with_reducible repeat (first | refine yN ?_ _ | refine yD ?_ | refine yA ?_ _)); refine yF ?_ NB204_279.out _; (with_reducible repeat (first | refine yN ?_ _ | refine yD ?_ | refine yA ?_ _)); refine yF ?_ NB204_279.out _; (with_reducible repeat (first | refine yN ?_ _ | refine yD ?_ | refine yA ?_ _)); exact BK204.out) hb); have n12_ := aM (yB (g := gb222) (o := .cells #[.slice Ao28 t215.length co28, .slice Ao31 t218.length co31] 30 (0, 0)) (by (with_reducible repeat (first | refine yN ?_ _ | refine yD ?_ | refine yA ?_ _)); refine yF ?_ NB222_279.out _; (with_reducible repeat (first | refine yN ?_ _ | refine yD ?_ | refine yA ?_ _)); refine yF ?_ NB222_279.out _; (with_reducible repeat (first | refine yN ?_ _ | refine yD ?_ | refine yA ?_ _)); exact BK222.out) hb); have n13_ := aM (yB (g := gb229) (o := .cells #[.slice Ao35 t254.length co35, .slice Ao39 t255.length co39] 30 (0, 0)) (by (with_reducible repeat (first | refine yN ?_ _ | refine yD ?_ | refine yA ?_ _)); refine yF ?_ NB229_279.out _; (with_reducible repeat (first | refine yN ?_ _ | refine yD ?_ | refine yA ?_ _)); refine yF ?_ NB229_279.out _; (with_reducible repeat (first | refine yN ?_ _ | refine yD ?_ | refine yA ?_ _)); exact BK229.out) hb); have n14_ := aM (yB (g := gb240) (o := .cells #[.slice Ao45 t233.length co45, .slice Ao50 t236.length co50] 30 (0, 0)) (by (with_reducible repeat (first | refine yN ?_ _ | refine yD ?_ | refine yA ?_ _)); refine yF ?_ NB240_279.out _; (with_reducible repeat (first | refine yN ?_ _ | refine yD ?_ | refine yA ?_ _)); refine yF ?_ NB240_279.out _; (with_reducible repeat (first | refine yN ?_ _ | refine yD ?_ | refine yA ?_ _)); exact BK240.out) hb); have n15_ := aM (yB (g := gb279) (o := .cells #[.slice Ao144 t272.length co144, .slice Ao150 t275.length co150] 30 (0, 0)) (by (with_reducible repeat (first | refine yN ?_ _ | refine yD ?_ | refine yA ?_ _)); refine yP (cs := #[.slice Ao144 t272.length co144, .slice none 0 0]) ?_ 1 _ rfl; (with_reducible repeat (first | refine yN ?_ _ | refine yD ?_ | refine yA ?_ _)); refine yP (cs := #[.slice none 0 0, .slice none 0 0]) ?_ 0 _ rfl; (with_reducible repeat (first | refine yN ?_ _ | refine yD ?_ | refine yA ?_ _)); exact BK279.out) hb); have n16_ := aM (zT (by repeat (first | (with_reducible first | exact HB.out | apply zA | apply zN | apply zD | refine zS ?_ GE204.out | refine zS ?_ GE222.out | refine zS ?_ GE229.out | refine zS ?_ GE240.out | refine zS ?_ GE279.out) | exact HB.out)) hb); clear HO_223000; clear HO_223001; clear HO_230000; clear HO_230001; clear HO_241000; clear HO_241001; clear HO265; clear HO268; clear HO271; clear HO274; clear HO277; clear BK204; clear BK222; clear BK229; clear BK240; clear BK279; clear HB; have HO_223000 := n0_; have HO_223001 := n1_; have HO_230000 := n2_; have HO_230001 := n3_; have HO_241000 := n4_; have HO_241001 := n5_; have HO265 := n6_; have HO268 := n7_; have HO271 := n8_; have HO274 := n9_; have HO277 := n10_; have BK204 := n11_; have BK222 := n12_; have BK229 := n13_; have BK240 := n14_; have BK279 := n15_; have HB := n16_; clear n0_ n1_ n2_ n3_ n4_ n5_ n6_ n7_ n8_ n9_ n10_ n11_ n12_ n13_ n14_ n15_ n16_; (try clear hb); (try clear hb2); (try clear hk); (try clear hi)))
               go_meet
               case rel => exact ⟨_, (true), (by first | rfl | (simp; done) | (simp [*]; done)), H', ⟨by have := HJ15.out; have := HJ77.out; first | omega | exact Nat.le_refl _⟩, ⟨by (try simp only [hl230000_77]); (try simp only [hl230001_77]); (with_reducible repeat (first | apply xA | apply xN | apply xD)); exact xM HO_223000.out (fun _ hk => ⟨hk.1.1.1, ⟨hk.1.1.2, hk.2⟩⟩)⟩, ⟨by (try simp only [hl230000_77]); (try simp only [hl230001_77]); (with_reducible repeat (first | apply xA | apply xN | apply xD)); exact xM HO_223001.out (fun _ hk => ⟨hk.1.1.1, ⟨hk.1.1.2, hk.2⟩⟩)⟩, ⟨by (try simp only [hl230000_77]); (try simp only [hl230001_77]); (with_reducible repeat (first | apply xA | apply xN | apply xD)); exact xM HO_230000.out (fun _ hk => ⟨hk.1.1.1, ⟨hk.1.1.2, hk.2⟩⟩)⟩, ⟨by (try simp only [hl230000_77]); (try simp only [hl230001_77]); (with_reducible repeat (first | apply xA | apply xN | apply xD)); exact xM HO_230001.out (fun _ hk => ⟨hk.1.1.1, ⟨hk.1.1.2, hk.2⟩⟩)⟩, ⟨by (try simp only [hl230000_77]); (try simp only [hl230001_77]); (with_reducible repeat (first | apply xA | apply xN | apply xD)); exact xM HO_241000.out (fun _ hk => ⟨hk.1.1.1, ⟨hk.1.1.2, hk.2⟩⟩)⟩, ⟨by (try simp only [hl230000_77]); (try simp only [hl230001_77]); (with_reducible repeat (first | apply xA | apply xN | apply xD)); exact xM HO_241001.out (fun _ hk => ⟨hk.1.1.1, ⟨hk.1.1.2, hk.2⟩⟩)⟩, ⟨by (try simp only [hl230000_77]); (try simp only [hl230001_77]); (with_reducible repeat (first | apply xA | apply xN | apply xD)); exact xM HO274.out (fun _ hk => ⟨hk.1.1.1.2, ⟨hk.1.1.2, hk.1.2⟩⟩)⟩, ⟨by (try simp only [hl230000_77]); (try simp only [hl230001_77]); (with_reducible repeat (first | apply xA | apply xN | apply xD)); exact xM HO277.out (fun _ hk => ⟨hk.1.1.1.2, ⟨hk.1.1.2, hk.1.2⟩⟩)⟩, ⟨by (try simp only [hl230000_77]); (try simp only [hl230001_77]); (with_reducible repeat (first | refine yN ?_ _ | refine yD ?_ | refine yA ?_ _)); exact BK204.out⟩, ⟨by (try simp only [hl230000_77]); (try simp only [hl230001_77]); (with_reducible repeat (first | refine yN ?_ _ | refine yD ?_ | refine yA ?_ _)); exact BK222.out⟩, ⟨by (try simp only [hl230000_77]); (try simp only [hl230001_77]); (with_reducible repeat (first | refine yN ?_ _ | refine yD ?_ | refine yA ?_ _)); exact BK229.out⟩, ⟨by (try simp only [hl230000_77]); (try simp only [hl230001_77]); (with_reducible repeat (first | refine yN ?_ _ | refine yD ?_ | refine yA ?_ _)); exact BK240.out⟩, ⟨by (try simp only [hl230000_77]); (try simp only [hl230001_77]); (with_reducible repeat (first | refine yN ?_ _ | refine yD ?_ | refine yA ?_ _)); exact BK279.out⟩, ⟨by repeat (first | (with_reducible first | exact HB.out | apply zA | apply zN | apply zD | refine zS ?_ GE204.out | refine zS ?_ GE222.out | refine zS ?_ GE229.out | refine zS ?_ GE240.out | refine zS ?_ GE279.out) | exact HB.out)⟩⟩
             case rest =>
              clear HC126
              try clear c1
              try clear c2
              try clear p2
              try clear c3
              try clear c3b0
              try clear c3b1
              try clear c4
              try clear c5
              try clear c6
              try clear c6b0
              try clear c7
              try clear c8
              try clear c9
              try clear c10
              try clear c11
              try clear c12
              try clear c13
              try clear c14
              try clear c15
              try clear c16
              try clear c17
              try clear c26
              try clear c27
              try clear c29
              try clear c30
              try clear c31
              try clear c32
              try clear c33
              try clear c34
              try clear c36
              try clear c37
              try clear c46
              try clear c47
              try clear c48
              try clear c52
              try clear c53
              try clear c54
              try clear c55
              try clear c57
              try clear c58
              try clear c61
              try clear c62
              try clear c63
              try clear c65
              try clear c66
              try clear c69
              try clear c72
              try clear c75
              try clear c86
              try clear c87
              try clear c88
              try clear c92
              try clear c92b0
              try clear c94
              try clear c95
              try clear c96
              try clear c97
              try clear c99
              try clear c100
              try clear c103
              try clear c104
              try clear c105
              try clear c107
              try clear c108
              try clear c111
              try clear c114
              try clear c114b0
              try clear c115
              try clear c116
              try clear c117
              try clear c122
              try clear c122b0
              try clear c122b1
              try clear c127
              try clear c128
              try clear c129
              try clear c134
              try clear c135
              try clear c145
              try clear c146
              try clear c147
              try clear c148
              try clear c152
              try clear c153
              try clear c154
              try clear c155
              try clear c156
              try clear c158
              try clear c159
              try clear c160
              try clear c163
              try clear c164
              try clear c165
              try clear c166
              try clear c168
              try clear c169
              try clear c170
              try clear hcz101_0
              try clear hcz101_1
              try clear hcz106_0
              try clear hcz106_1
              try clear hcz109_0
              try clear hcz109_1
              try clear hcz118_0
              try clear hcz118_1
              try clear hcz120_0
              try clear hcz120_1
              try clear hcz130_0
              try clear hcz130_1
              try clear hcz132_0
              try clear hcz132_1
              try clear hcz136_0
              try clear hcz136_1
              try clear hcz149_0
              try clear hcz149_1
              try clear hcz157_0
              try clear hcz157_1
              try clear hcz161_0
              try clear hcz161_1
              try clear hcz167_0
              try clear hcz167_1
              try clear hcz171_0
              try clear hcz171_1
              try clear hcz18_0
              try clear hcz18_1
              try clear hcz20_0
              try clear hcz20_1
              try clear hcz30_0
              try clear hcz30_1
              try clear hcz32_0
              try clear hcz32_1
              try clear hcz38_0
              try clear hcz38_1
              try clear hcz41_0
              try clear hcz41_1
              try clear hcz49_0
              try clear hcz49_1
              try clear hcz56_0
              try clear hcz56_1
              try clear hcz59_0
              try clear hcz59_1
              try clear hcz64_0
              try clear hcz64_1
              try clear hcz67_0
              try clear hcz67_1
              try clear hcz89_0
              try clear hcz89_1
              try clear hcz8_0
              try clear hcz8_1
              try clear hcz98_0
              try clear hcz98_1
              try clear hfz101_0
              try clear hfz101_1
              try clear hfz106_0
              try clear hfz106_1
              try clear hfz109_0
              try clear hfz109_1
              try clear hfz118_0
              try clear hfz118_1
              try clear hfz120_0
              try clear hfz120_1
              try clear hfz130_0
              try clear hfz130_1
              try clear hfz132_0
              try clear hfz132_1
              try clear hfz136_0
              try clear hfz136_1
              try clear hfz149_0
              try clear hfz149_1
              try clear hfz157_0
              try clear hfz157_1
              try clear hfz161_0
              try clear hfz161_1
              try clear hfz167_0
              try clear hfz167_1
              try clear hfz171_0
              try clear hfz171_1
              try clear hfz18_0
              try clear hfz18_1
              try clear hfz20_0
              try clear hfz20_1
              try clear hfz30_0
              try clear hfz30_1
              try clear hfz32_0
              try clear hfz32_1
              try clear hfz38_0
              try clear hfz38_1
              try clear hfz41_0
              try clear hfz41_1
              try clear hfz49_0
              try clear hfz49_1
              try clear hfz56_0
              try clear hfz56_1
              try clear hfz59_0
              try clear hfz59_1
              try clear hfz64_0
              try clear hfz64_1
              try clear hfz67_0
              try clear hfz67_1
              try clear hfz89_0
              try clear hfz89_1
              try clear hfz8_0
              try clear hfz8_1
              try clear hfz98_0
              try clear hfz98_1
              try clear p2
              obtain ⟨kq, x108_125, rfl, HA, HJ125, HO_223000, HO_223001, HO_230000, HO_230001, HO_241000, HO_241001, HO_280000, HO_280001, BK204, BK222, BK229, BK240, BK279, HB⟩ := hcut
              have hl241000_125 := (Kd.R_reads' HO_241000.out).1
              rw [hl241000_125] at HO_241000
              (try simp only [hl241000_125])
              (try simp only [hl241000_125] at BK204)
              (try simp only [hl241000_125] at BK222)
              (try simp only [hl241000_125] at BK229)
              (try simp only [hl241000_125] at BK240)
              (try simp only [hl241000_125] at BK279)
              (try simp only [hl241000_125] at HO_223000)
              (try simp only [hl241000_125] at HO_223001)
              (try simp only [hl241000_125] at HO_230000)
              (try simp only [hl241000_125] at HO_230001)
              (try simp only [hl241000_125] at HO_241001)
              (try simp only [hl241000_125] at HO_280000)
              (try simp only [hl241000_125] at HO_280001)
              have hl241001_125 := (Kd.R_reads' HO_241001.out).1
              rw [hl241001_125] at HO_241001
              (try simp only [hl241001_125])
              (try simp only [hl241001_125] at BK204)
              (try simp only [hl241001_125] at BK222)
              (try simp only [hl241001_125] at BK229)
              (try simp only [hl241001_125] at BK240)
              (try simp only [hl241001_125] at BK279)
              (try simp only [hl241001_125] at HO_223000)
              (try simp only [hl241001_125] at HO_223001)
              (try simp only [hl241001_125] at HO_230000)
              (try simp only [hl241001_125] at HO_230001)
              (try simp only [hl241001_125] at HO_241000)
              (try simp only [hl241001_125] at HO_280000)
              (try simp only [hl241001_125] at HO_280001)
              cases kq with
              | zero => exact absurd HA.out (fun h_ => by change none = some _ at h_; cases h_)
              | succ kj125 =>
               have H := HA.out
               clear HA
               simp only [laws_FnExactCrashDevice.j2] at H
               by_cases c173 : x108_125 = true
               ·subst c173
                have H1 : (some false) = some r := by rw [if_pos rfl] at H; exact H
                clear H
                have H := H1
                clear H1
                exact absurd (H.trans (congrArg some HR_.out)) (by decide)
               ·replace c173 := Bool.eq_false_iff.mpr c173
                subst c173
                have H1 : ((laws_heldDevice.f kj125 t260 t261 1).bind fun t281 => (if t281 < 0 then (some false) else (if t281 = t259 then (some true) else (some false)))) = some r := by rw [if_neg (show ¬ (false = true) by decide)] at H; exact H
                clear H
                have H := H1
                clear H1
                replace H := Option.bind_eq_some_iff.mp H
                obtain ⟨t281, A1740, H⟩ := H
                replace H : (if t281 < 0 then (some false) else (if t281 = t259 then (some true) else (some false))) = some r := H
                have A174 := aM A1740
                clear A1740
                by_cases c175 : t281 < 0
                ·rw [if_pos c175] at H
                 have c175b0 : decide (t281 < 0) = true := decide_eq_true c175
                 clear c175
                 obtain rfl := Option.some.inj H
                 have hnb176 := NB240_204.out
                 have hnc176 := NB204_240.out
                 have hnb177 := NB240_222.out
                 have hnc177 := NB222_240.out
                 have hnb178 := NB240_229.out
                 have hnc178 := NB229_240.out
                 have hnb179 := NB240_279.out
                 have hnc179 := NB279_240.out
                 have hcz180_0 : wc.cell? ⟨gb240, 0, none⟩ = some (.slice Ao45 t260.length co45) := (yC BK240.out 0).trans rfl
                 have hcz180_1 : wc.cell? ⟨gb240, 1, none⟩ = some (.slice Ao50 t261.length co50) := (yC BK240.out 1).trans rfl
                 have hfz180_0 := yZ BK240.out 0
                 have hfz180_1 := yZ BK240.out 1
                 go_wp2_with (first | ((with_reducible refine gate_callee (f := 27) rfl ?_); refine goesL_ (some 111) rfl rfl Try.func27 (by kernel_rfl) rfl #[.agg #[.slice Ao45 t260.length co45, .slice Ao50 t261.length co50], .int .i64 1] rfl (by (try simp only [List.map_toArray, List.map_cons, List.map_nil]); first | done | rfl | (simp only [List.length_drop, List.length_take]; rfl)) ?_; (with_reducible refine (laws_heldDevice.calls kj125 _ _ t260 _ _ t261 1 t281 _ ?side1 ?side2 ?side3 ?side4 A174.out).mono ?_); (case side1 => repeat (first | exact (Kd.R_reads' HO_241000.out).2.2 | (with_reducible refine cA ?_ _) | (with_reducible refine cN ?_ _) | (with_reducible refine cD ?_))); (case side2 => exact (Kd.R_reads' HO_241000.out).2.1); (case side3 => repeat (first | exact (Kd.R_reads' HO_241001.out).2.2 | (with_reducible refine cA ?_ _) | (with_reducible refine cN ?_ _) | (with_reducible refine cD ?_))); (case side4 => exact (Kd.R_reads' HO_241001.out).2.1); rintro e w181 ⟨rfl, hb⟩; refine ⟨_, rfl, ?_⟩; have n0_ := aM (xB (by (with_reducible repeat (first | apply xA | apply xN | apply xD)); exact HO_223000.out) hb); have n1_ := aM (xB (by (with_reducible repeat (first | apply xA | apply xN | apply xD)); exact HO_223001.out) hb); have n2_ := aM (xB (by (with_reducible repeat (first | apply xA | apply xN | apply xD)); exact HO_230000.out) hb); have n3_ := aM (xB (by (with_reducible repeat (first | apply xA | apply xN | apply xD)); exact HO_230001.out) hb); have n4_ := aM (xB (by (with_reducible repeat (first | apply xA | apply xN | apply xD)); exact HO_241000.out) hb); have n5_ := aM (xB (by (with_reducible repeat (first | apply xA | apply xN | apply xD)); exact HO_241001.out) hb); have n6_ := aM (xB (by (with_reducible repeat (first | apply xA | apply xN | apply xD)); exact HO_280000.out) hb); have n7_ := aM (xB (by (with_reducible repeat (first | apply xA | apply xN | apply xD)); exact HO_280001.out) hb); have n8_ := aM (yB (g := gb204) (o := .cells #[.slice A0_0 l0_0.length c0_0, .slice A0_1 l0_1.length c0_1] 25 (0, 0)) (by (with_reducible repeat (first | refine yN ?_ _ | refine yD ?_ | refine yA ?_ _)); exact BK204.out) hb); have n9_ := aM (yB (g := gb222) (o := .cells #[.slice Ao28 t215.length co28, .slice Ao31 t218.length co31] 30 (0, 0)) (by (with_reducible repeat (first | refine yN ?_ _ | refine yD ?_ | refine yA ?_ _)); exact BK222.out) hb); have n10_ := aM (yB (g := gb229) (o := .cells #[.slice Ao35 t254.length co35, .slice Ao39 t255.length co39] 30 (0, 0)) (by (with_reducible repeat (first | refine yN ?_ _ | refine yD ?_ | refine yA ?_ _)); exact BK229.out) hb); have n11_ := aM (yB (g := gb240) (o := .cells #[.slice Ao45 t260.length co45, .slice Ao50 t261.length co50] 30 (0, 0)) (by (with_reducible repeat (first | refine yN ?_ _ | refine yD ?_ | refine yA ?_ _)); exact BK240.out) hb); have n12_ := aM (yB (g := gb279) (o := .cells #[.slice Ao144 t272.length co144, .slice Ao150 t275.length co150] 30 (0, 0)) (by (with_reducible repeat (first | refine yN ?_ _ | refine yD ?_ | refine yA ?_ _)); exact BK279.out) hb); have n13_ := aM (zT (by repeat (first | (with_reducible first | exact HB.out | apply zA | apply zN | apply zD | refine zS ?_ GE204.out | refine zS ?_ GE222.out | refine zS ?_ GE229.out | refine zS ?_ GE240.out | refine zS ?_ GE279.out) | exact HB.out)) hb); clear HO_223000; clear HO_223001; clear HO_230000; clear HO_230001; clear HO_241000; clear HO_241001; clear HO_280000; clear HO_280001; clear BK204; clear BK222; clear BK229; clear BK240; clear BK279; clear HB; have HO_223000 := n0_; have HO_223001 := n1_; have HO_230000 := n2_; have HO_230001 := n3_; have HO_241000 := n4_; have HO_241001 := n5_; have HO_280000 := n6_; have HO_280001 := n7_; have BK204 := n8_; have BK222 := n9_; have BK229 := n10_; have BK240 := n11_; have BK279 := n12_; have HB := n13_; clear n0_ n1_ n2_ n3_ n4_ n5_ n6_ n7_ n8_ n9_ n10_ n11_ n12_ n13_; (try clear hb); (try clear hb2); (try clear hk); (try clear hi)))
                 go_ret
                 exact ⟨by first | rfl | (simp [errW_none, errW_some] <;> rfl) | (simp [*, errW_none, errW_some] <;> rfl), by repeat (first | (with_reducible first | exact HB.out | apply zA | apply zN | apply zD | refine zS ?_ GE204.out | refine zS ?_ GE222.out | refine zS ?_ GE229.out | refine zS ?_ GE240.out | refine zS ?_ GE279.out) | exact HB.out)⟩
                ·rw [if_neg c175] at H
                 have c175b0 : decide (t281 < 0) = false := decide_eq_false c175
                 clear c175
                 by_cases c182 : t281 = t259
                 ·rw [if_pos c182] at H
                  have c182b0 : (t281 == t259) = true := beq_iff_eq.mpr c182
                  have c182b1 : (t281 != t259) = false := bne_eq_false_iff_eq.mpr c182
                  clear c182
                  obtain rfl := Option.some.inj H
                  have hnb183 := NB240_204.out
                  have hnc183 := NB204_240.out
                  have hnb184 := NB240_222.out
                  have hnc184 := NB222_240.out
                  have hnb185 := NB240_229.out
                  have hnc185 := NB229_240.out
                  have hnb186 := NB240_279.out
                  have hnc186 := NB279_240.out
                  have hcz187_0 : wc.cell? ⟨gb240, 0, none⟩ = some (.slice Ao45 t260.length co45) := (yC BK240.out 0).trans rfl
                  have hcz187_1 : wc.cell? ⟨gb240, 1, none⟩ = some (.slice Ao50 t261.length co50) := (yC BK240.out 1).trans rfl
                  have hfz187_0 := yZ BK240.out 0
                  have hfz187_1 := yZ BK240.out 1
                  go_wp2_with (first | ((with_reducible refine gate_callee (f := 27) rfl ?_); refine goesL_ (some 111) rfl rfl Try.func27 (by kernel_rfl) rfl #[.agg #[.slice Ao45 t260.length co45, .slice Ao50 t261.length co50], .int .i64 1] rfl (by (try simp only [List.map_toArray, List.map_cons, List.map_nil]); first | done | rfl | (simp only [List.length_drop, List.length_take]; rfl)) ?_; (with_reducible refine (laws_heldDevice.calls kj125 _ _ t260 _ _ t261 1 t281 _ ?side1 ?side2 ?side3 ?side4 A174.out).mono ?_); (case side1 => repeat (first | exact (Kd.R_reads' HO_241000.out).2.2 | (with_reducible refine cA ?_ _) | (with_reducible refine cN ?_ _) | (with_reducible refine cD ?_))); (case side2 => exact (Kd.R_reads' HO_241000.out).2.1); (case side3 => repeat (first | exact (Kd.R_reads' HO_241001.out).2.2 | (with_reducible refine cA ?_ _) | (with_reducible refine cN ?_ _) | (with_reducible refine cD ?_))); (case side4 => exact (Kd.R_reads' HO_241001.out).2.1); rintro e w188 ⟨rfl, hb⟩; refine ⟨_, rfl, ?_⟩; have n0_ := aM (xB (by (with_reducible repeat (first | apply xA | apply xN | apply xD)); exact HO_223000.out) hb); have n1_ := aM (xB (by (with_reducible repeat (first | apply xA | apply xN | apply xD)); exact HO_223001.out) hb); have n2_ := aM (xB (by (with_reducible repeat (first | apply xA | apply xN | apply xD)); exact HO_230000.out) hb); have n3_ := aM (xB (by (with_reducible repeat (first | apply xA | apply xN | apply xD)); exact HO_230001.out) hb); have n4_ := aM (xB (by (with_reducible repeat (first | apply xA | apply xN | apply xD)); exact HO_241000.out) hb); have n5_ := aM (xB (by (with_reducible repeat (first | apply xA | apply xN | apply xD)); exact HO_241001.out) hb); have n6_ := aM (xB (by (with_reducible repeat (first | apply xA | apply xN | apply xD)); exact HO_280000.out) hb); have n7_ := aM (xB (by (with_reducible repeat (first | apply xA | apply xN | apply xD)); exact HO_280001.out) hb); have n8_ := aM (yB (g := gb204) (o := .cells #[.slice A0_0 l0_0.length c0_0, .slice A0_1 l0_1.length c0_1] 25 (0, 0)) (by (with_reducible repeat (first | refine yN ?_ _ | refine yD ?_ | refine yA ?_ _)); exact BK204.out) hb); have n9_ := aM (yB (g := gb222) (o := .cells #[.slice Ao28 t215.length co28, .slice Ao31 t218.length co31] 30 (0, 0)) (by (with_reducible repeat (first | refine yN ?_ _ | refine yD ?_ | refine yA ?_ _)); exact BK222.out) hb); have n10_ := aM (yB (g := gb229) (o := .cells #[.slice Ao35 t254.length co35, .slice Ao39 t255.length co39] 30 (0, 0)) (by (with_reducible repeat (first | refine yN ?_ _ | refine yD ?_ | refine yA ?_ _)); exact BK229.out) hb); have n11_ := aM (yB (g := gb240) (o := .cells #[.slice Ao45 t260.length co45, .slice Ao50 t261.length co50] 30 (0, 0)) (by (with_reducible repeat (first | refine yN ?_ _ | refine yD ?_ | refine yA ?_ _)); exact BK240.out) hb); have n12_ := aM (yB (g := gb279) (o := .cells #[.slice Ao144 t272.length co144, .slice Ao150 t275.length co150] 30 (0, 0)) (by (with_reducible repeat (first | refine yN ?_ _ | refine yD ?_ | refine yA ?_ _)); exact BK279.out) hb); have n13_ := aM (zT (by repeat (first | (with_reducible first | exact HB.out | apply zA | apply zN | apply zD | refine zS ?_ GE204.out | refine zS ?_ GE222.out | refine zS ?_ GE229.out | refine zS ?_ GE240.out | refine zS ?_ GE279.out) | exact HB.out)) hb); clear HO_223000; clear HO_223001; clear HO_230000; clear HO_230001; clear HO_241000; clear HO_241001; clear HO_280000; clear HO_280001; clear BK204; clear BK222; clear BK229; clear BK240; clear BK279; clear HB; have HO_223000 := n0_; have HO_223001 := n1_; have HO_230000 := n2_; have HO_230001 := n3_; have HO_241000 := n4_; have HO_241001 := n5_; have HO_280000 := n6_; have HO_280001 := n7_; have BK204 := n8_; have BK222 := n9_; have BK229 := n10_; have BK240 := n11_; have BK279 := n12_; have HB := n13_; clear n0_ n1_ n2_ n3_ n4_ n5_ n6_ n7_ n8_ n9_ n10_ n11_ n12_ n13_; (try clear hb); (try clear hb2); (try clear hk); (try clear hi)))
                  go_ret
                  exact ⟨by first | rfl | (simp [errW_none, errW_some] <;> rfl) | (simp [*, errW_none, errW_some] <;> rfl), by repeat (first | (with_reducible first | exact HB.out | apply zA | apply zN | apply zD | refine zS ?_ GE204.out | refine zS ?_ GE222.out | refine zS ?_ GE229.out | refine zS ?_ GE240.out | refine zS ?_ GE279.out) | exact HB.out)⟩
                 ·rw [if_neg c182] at H
                  have c182b0 : (t281 == t259) = false := beq_eq_false_iff_ne.mpr c182
                  have c182b1 : (t281 != t259) = true := bne_iff_ne.mpr c182
                  obtain rfl := Option.some.inj H
                  have hnb189 := NB240_204.out
                  have hnc189 := NB204_240.out
                  have hnb190 := NB240_222.out
                  have hnc190 := NB222_240.out
                  have hnb191 := NB240_229.out
                  have hnc191 := NB229_240.out
                  have hnb192 := NB240_279.out
                  have hnc192 := NB279_240.out
                  have hcz193_0 : wc.cell? ⟨gb240, 0, none⟩ = some (.slice Ao45 t260.length co45) := (yC BK240.out 0).trans rfl
                  have hcz193_1 : wc.cell? ⟨gb240, 1, none⟩ = some (.slice Ao50 t261.length co50) := (yC BK240.out 1).trans rfl
                  have hfz193_0 := yZ BK240.out 0
                  have hfz193_1 := yZ BK240.out 1
                  go_wp2_with (first | ((with_reducible refine gate_callee (f := 27) rfl ?_); refine goesL_ (some 111) rfl rfl Try.func27 (by kernel_rfl) rfl #[.agg #[.slice Ao45 t260.length co45, .slice Ao50 t261.length co50], .int .i64 1] rfl (by (try simp only [List.map_toArray, List.map_cons, List.map_nil]); first | done | rfl | (simp only [List.length_drop, List.length_take]; rfl)) ?_; (with_reducible refine (laws_heldDevice.calls kj125 _ _ t260 _ _ t261 1 t281 _ ?side1 ?side2 ?side3 ?side4 A174.out).mono ?_); (case side1 => repeat (first | exact (Kd.R_reads' HO_241000.out).2.2 | (with_reducible refine cA ?_ _) | (with_reducible refine cN ?_ _) | (with_reducible refine cD ?_))); (case side2 => exact (Kd.R_reads' HO_241000.out).2.1); (case side3 => repeat (first | exact (Kd.R_reads' HO_241001.out).2.2 | (with_reducible refine cA ?_ _) | (with_reducible refine cN ?_ _) | (with_reducible refine cD ?_))); (case side4 => exact (Kd.R_reads' HO_241001.out).2.1); rintro e w194 ⟨rfl, hb⟩; refine ⟨_, rfl, ?_⟩; have n0_ := aM (xB (by (with_reducible repeat (first | apply xA | apply xN | apply xD)); exact HO_223000.out) hb); have n1_ := aM (xB (by (with_reducible repeat (first | apply xA | apply xN | apply xD)); exact HO_223001.out) hb); have n2_ := aM (xB (by (with_reducible repeat (first | apply xA | apply xN | apply xD)); exact HO_230000.out) hb); have n3_ := aM (xB (by (with_reducible repeat (first | apply xA | apply xN | apply xD)); exact HO_230001.out) hb); have n4_ := aM (xB (by (with_reducible repeat (first | apply xA | apply xN | apply xD)); exact HO_241000.out) hb); have n5_ := aM (xB (by (with_reducible repeat (first | apply xA | apply xN | apply xD)); exact HO_241001.out) hb); have n6_ := aM (xB (by (with_reducible repeat (first | apply xA | apply xN | apply xD)); exact HO_280000.out) hb); have n7_ := aM (xB (by (with_reducible repeat (first | apply xA | apply xN | apply xD)); exact HO_280001.out) hb); have n8_ := aM (yB (g := gb204) (o := .cells #[.slice A0_0 l0_0.length c0_0, .slice A0_1 l0_1.length c0_1] 25 (0, 0)) (by (with_reducible repeat (first | refine yN ?_ _ | refine yD ?_ | refine yA ?_ _)); exact BK204.out) hb); have n9_ := aM (yB (g := gb222) (o := .cells #[.slice Ao28 t215.length co28, .slice Ao31 t218.length co31] 30 (0, 0)) (by (with_reducible repeat (first | refine yN ?_ _ | refine yD ?_ | refine yA ?_ _)); exact BK222.out) hb); have n10_ := aM (yB (g := gb229) (o := .cells #[.slice Ao35 t254.length co35, .slice Ao39 t255.length co39] 30 (0, 0)) (by (with_reducible repeat (first | refine yN ?_ _ | refine yD ?_ | refine yA ?_ _)); exact BK229.out) hb); have n11_ := aM (yB (g := gb240) (o := .cells #[.slice Ao45 t260.length co45, .slice Ao50 t261.length co50] 30 (0, 0)) (by (with_reducible repeat (first | refine yN ?_ _ | refine yD ?_ | refine yA ?_ _)); exact BK240.out) hb); have n12_ := aM (yB (g := gb279) (o := .cells #[.slice Ao144 t272.length co144, .slice Ao150 t275.length co150] 30 (0, 0)) (by (with_reducible repeat (first | refine yN ?_ _ | refine yD ?_ | refine yA ?_ _)); exact BK279.out) hb); have n13_ := aM (zT (by repeat (first | (with_reducible first | exact HB.out | apply zA | apply zN | apply zD | refine zS ?_ GE204.out | refine zS ?_ GE222.out | refine zS ?_ GE229.out | refine zS ?_ GE240.out | refine zS ?_ GE279.out) | exact HB.out)) hb); clear HO_223000; clear HO_223001; clear HO_230000; clear HO_230001; clear HO_241000; clear HO_241001; clear HO_280000; clear HO_280001; clear BK204; clear BK222; clear BK229; clear BK240; clear BK279; clear HB; have HO_223000 := n0_; have HO_223001 := n1_; have HO_230000 := n2_; have HO_230001 := n3_; have HO_241000 := n4_; have HO_241001 := n5_; have HO_280000 := n6_; have HO_280001 := n7_; have BK204 := n8_; have BK222 := n9_; have BK229 := n10_; have BK240 := n11_; have BK279 := n12_; have HB := n13_; clear n0_ n1_ n2_ n3_ n4_ n5_ n6_ n7_ n8_ n9_ n10_ n11_ n12_ n13_; (try clear hb); (try clear hb2); (try clear hk); (try clear hi)))
                  go_ret
                  exact ⟨by first | rfl | (simp [errW_none, errW_some] <;> rfl) | (simp [*, errW_none, errW_some] <;> rfl), by repeat (first | (with_reducible first | exact HB.out | apply zA | apply zN | apply zD | refine zS ?_ GE204.out | refine zS ?_ GE222.out | refine zS ?_ GE229.out | refine zS ?_ GE240.out | refine zS ?_ GE279.out) | exact HB.out)⟩
            ·rw [if_neg c122] at H
             have c122b0 : (t262 == t259) = false := beq_eq_false_iff_ne.mpr c122
             have c122b1 : (t262 != t259) = true := bne_iff_ne.mpr c122
             obtain rfl := Option.some.inj H
             have hnb195 := NB240_204.out
             have hnc195 := NB204_240.out
             have hnb196 := NB240_222.out
             have hnc196 := NB222_240.out
             have hnb197 := NB240_229.out
             have hnc197 := NB229_240.out
             have hcz198_0 : wc.cell? ⟨gb240, 0, none⟩ = some (.slice Ao45 t233.length co45) := (yC BK240.out 0).trans rfl
             have hcz198_1 : wc.cell? ⟨gb240, 1, none⟩ = some (.slice Ao50 t236.length co50) := (yC BK240.out 1).trans rfl
             have hfz198_0 := yZ BK240.out 0
             have hfz198_1 := yZ BK240.out 1
             go_wp2_with (first | ((with_reducible refine gate_callee (f := 26) rfl ?_); refine goesL_ (some 83) rfl rfl Try.func26 (by kernel_rfl) rfl #[.agg #[.slice Ao45 t233.length co45, .slice Ao50 t236.length co50], .int .i64 1] rfl (by (try simp only [List.map_toArray, List.map_cons, List.map_nil]); first | done | rfl | (simp only [List.length_drop, List.length_take]; rfl)) ?_; (with_reducible refine (laws_markDevice.calls kj77 (fun k_ => some k_ = (.slice Ao45 t233.length co45 : Value).ownBlock) (.slice Ao45 t233.length co45) t233 (fun k_ => some k_ = (.slice Ao50 t236.length co50 : Value).ownBlock) (.slice Ao50 t236.length co50) t236 1 t259 t260 t261 w _ ?side1 ?side2 ?side3 A112.out).mono ?_); (case side1 => repeat (first | (with_reducible first | exact HB.out | apply zA | apply zN | apply zD | refine zS ?_ GE204.out | refine zS ?_ GE222.out | refine zS ?_ GE229.out | refine zS ?_ GE240.out) | exact HB.out)); (case side2 => exact Kd.R_tight rfl HO_241000.out); (case side3 => exact Kd.R_tight rfl HO_241001.out); rintro e w199 ⟨rfl, hy0, hy1, hb, hkp⟩; refine ⟨_, rfl, ?_⟩; have n0_ := aM (xM (ok' := fun k_ => some k_ ≠ (.slice Ao35 t254.length co35 : Value).ownBlock ∧ some k_ ≠ (.slice Ao45 t233.length co45 : Value).ownBlock) (Kd.R_keptB ((Kd.R_apart' HO_223000.out (Kd.R_typed HO_241001.out) (by decide))) hkp (fun k_ hk_ hs_ => Or.elim hs_ (fun e_ => (hk_.1.2) e_) (fun e_ => (hk_.2) e_))) (fun k_ hk_ => ⟨hk_.1.1.1, hk_.1.1.2⟩)); have n1_ := aM (xM (ok' := fun k_ => some k_ ≠ (.slice Ao39 t255.length co39 : Value).ownBlock ∧ some k_ ≠ (.slice Ao50 t236.length co50 : Value).ownBlock) (Kd.R_keptB ((Kd.R_apart' HO_223001.out (Kd.R_typed HO_241000.out) (by decide))) hkp (fun k_ hk_ hs_ => Or.elim hs_ (fun e_ => (hk_.2) e_) (fun e_ => (hk_.1.2) e_))) (fun k_ hk_ => ⟨hk_.1.1.1, hk_.1.1.2⟩)); have n2_ := aM (xM (ok' := fun k_ => some k_ ≠ (.slice Ao28 t215.length co28 : Value).ownBlock ∧ some k_ ≠ (.slice Ao45 t233.length co45 : Value).ownBlock) (Kd.R_keptB ((Kd.R_apart' HO_230000.out (Kd.R_typed HO_241001.out) (by decide))) hkp (fun k_ hk_ hs_ => Or.elim hs_ (fun e_ => (hk_.1.2) e_) (fun e_ => (hk_.2) e_))) (fun k_ hk_ => ⟨hk_.1.1.1, hk_.1.1.2⟩)); have n3_ := aM (xM (ok' := fun k_ => some k_ ≠ (.slice Ao31 t218.length co31 : Value).ownBlock ∧ some k_ ≠ (.slice Ao50 t236.length co50 : Value).ownBlock) (Kd.R_keptB ((Kd.R_apart' HO_230001.out (Kd.R_typed HO_241000.out) (by decide))) hkp (fun k_ hk_ hs_ => Or.elim hs_ (fun e_ => (hk_.2) e_) (fun e_ => (hk_.1.2) e_))) (fun k_ hk_ => ⟨hk_.1.1.1, hk_.1.1.2⟩)); have n4_ := aM (Kd.R_reok rfl hy0 (fun k_ e_ => HO_241000.out.1 k_ e_)); have n5_ := aM (Kd.R_reok rfl hy1 (fun k_ e_ => HO_241001.out.1 k_ e_)); have n6_ := aM (blk_kept BK204.out hkp (fun hs_ => Or.elim hs_ (fun e_ => (fun e_ => (Kd.R_ne HO_241000.out BK204.out (by decide)) e_) e_) (fun e_ => (fun e_ => (Kd.R_ne HO_241001.out BK204.out (by decide)) e_) e_))); have n7_ := aM (blk_kept BK222.out hkp (fun hs_ => Or.elim hs_ (fun e_ => (fun e_ => (Kd.R_ne HO_241000.out BK222.out (by decide)) e_) e_) (fun e_ => (fun e_ => (Kd.R_ne HO_241001.out BK222.out (by decide)) e_) e_))); have n8_ := aM (blk_kept BK229.out hkp (fun hs_ => Or.elim hs_ (fun e_ => (fun e_ => (Kd.R_ne HO_241000.out BK229.out (by decide)) e_) e_) (fun e_ => (fun e_ => (Kd.R_ne HO_241001.out BK229.out (by decide)) e_) e_))); have n9_ := aM (blk_kept BK240.out hkp (fun hs_ => Or.elim hs_ (fun e_ => (fun e_ => (Kd.R_ne HO_241000.out BK240.out (by decide)) e_) e_) (fun e_ => (fun e_ => (Kd.R_ne HO_241001.out BK240.out (by decide)) e_) e_))); have n10_ := aM (hb); clear HO_223000; clear HO_223001; clear HO_230000; clear HO_230001; clear HO_241000; clear HO_241001; clear BK204; clear BK222; clear BK229; clear BK240; clear HB; have HO_223000 := n0_; have HO_223001 := n1_; have HO_230000 := n2_; have HO_230001 := n3_; have HO_241000 := n4_; have HO_241001 := n5_; have BK204 := n6_; have BK222 := n7_; have BK229 := n8_; have BK240 := n9_; have HB := n10_; clear n0_ n1_ n2_ n3_ n4_ n5_ n6_ n7_ n8_ n9_ n10_; (try clear hb); (try clear hkp); (try clear hy0); (try clear hy1); have hcz200_0 : w199.cell? ⟨gb240, 0, none⟩ = some (.slice Ao45 t233.length co45) := (yC BK240.out 0).trans rfl; have hcz200_1 : w199.cell? ⟨gb240, 1, none⟩ = some (.slice Ao50 t236.length co50) := (yC BK240.out 1).trans rfl; have hfz200_0 := yZ BK240.out 0; have hfz200_1 := yZ BK240.out 1) | ((with_reducible refine gate_callee (f := 27) rfl ?_); refine goesL_ (some 86) rfl rfl Try.func27 (by kernel_rfl) rfl #[.agg #[.slice Ao45 t260.length co45, .slice Ao50 t261.length co50], .int .i64 1] rfl (by (try simp only [List.map_toArray, List.map_cons, List.map_nil]); first | done | (rw [show t260.length = t233.length from (Kd.R_reads' HO_241000.out).1.symm, show t261.length = t236.length from (Kd.R_reads' HO_241001.out).1.symm] <;> rfl) | rfl | (simp only [List.length_drop, List.length_take]; rfl)) ?_; (with_reducible refine (laws_heldDevice.calls kj77 _ _ t260 _ _ t261 1 t262 _ ?side1 ?side2 ?side3 ?side4 A113.out).mono ?_); (case side1 => repeat (first | exact (Kd.R_reads' HO_241000.out).2.2 | (with_reducible refine cA ?_ _) | (with_reducible refine cN ?_ _) | (with_reducible refine cD ?_))); (case side2 => rw [show t260.length = t233.length from (Kd.R_reads' HO_241000.out).1.symm]; exact (Kd.R_reads' HO_241000.out).2.1); (case side3 => repeat (first | exact (Kd.R_reads' HO_241001.out).2.2 | (with_reducible refine cA ?_ _) | (with_reducible refine cN ?_ _) | (with_reducible refine cD ?_))); (case side4 => rw [show t261.length = t236.length from (Kd.R_reads' HO_241001.out).1.symm]; exact (Kd.R_reads' HO_241001.out).2.1); rintro e w201 ⟨rfl, hb⟩; refine ⟨_, rfl, ?_⟩; have n0_ := aM (xB (by (with_reducible repeat (first | apply xA | apply xN | apply xD)); exact HO_223000.out) hb); have n1_ := aM (xB (by (with_reducible repeat (first | apply xA | apply xN | apply xD)); exact HO_223001.out) hb); have n2_ := aM (xB (by (with_reducible repeat (first | apply xA | apply xN | apply xD)); exact HO_230000.out) hb); have n3_ := aM (xB (by (with_reducible repeat (first | apply xA | apply xN | apply xD)); exact HO_230001.out) hb); have n4_ := aM (xB (by (with_reducible repeat (first | apply xA | apply xN | apply xD)); exact HO_241000.out) hb); have n5_ := aM (xB (by (with_reducible repeat (first | apply xA | apply xN | apply xD)); exact HO_241001.out) hb); have n6_ := aM (yB (g := gb204) (o := .cells #[.slice A0_0 l0_0.length c0_0, .slice A0_1 l0_1.length c0_1] 25 (0, 0)) (by (with_reducible repeat (first | refine yN ?_ _ | refine yD ?_ | refine yA ?_ _)); exact BK204.out) hb); have n7_ := aM (yB (g := gb222) (o := .cells #[.slice Ao28 t215.length co28, .slice Ao31 t218.length co31] 30 (0, 0)) (by (with_reducible repeat (first | refine yN ?_ _ | refine yD ?_ | refine yA ?_ _)); exact BK222.out) hb); have n8_ := aM (yB (g := gb229) (o := .cells #[.slice Ao35 t254.length co35, .slice Ao39 t255.length co39] 30 (0, 0)) (by (with_reducible repeat (first | refine yN ?_ _ | refine yD ?_ | refine yA ?_ _)); exact BK229.out) hb); have n9_ := aM (yB (g := gb240) (o := .cells #[.slice Ao45 t233.length co45, .slice Ao50 t236.length co50] 30 (0, 0)) (by (with_reducible repeat (first | refine yN ?_ _ | refine yD ?_ | refine yA ?_ _)); exact BK240.out) hb); have n10_ := aM (zT (by repeat (first | (with_reducible first | exact HB.out | apply zA | apply zN | apply zD | refine zS ?_ GE204.out | refine zS ?_ GE222.out | refine zS ?_ GE229.out | refine zS ?_ GE240.out) | exact HB.out)) hb); clear HO_223000; clear HO_223001; clear HO_230000; clear HO_230001; clear HO_241000; clear HO_241001; clear BK204; clear BK222; clear BK229; clear BK240; clear HB; have HO_223000 := n0_; have HO_223001 := n1_; have HO_230000 := n2_; have HO_230001 := n3_; have HO_241000 := n4_; have HO_241001 := n5_; have BK204 := n6_; have BK222 := n7_; have BK229 := n8_; have BK240 := n9_; have HB := n10_; clear n0_ n1_ n2_ n3_ n4_ n5_ n6_ n7_ n8_ n9_ n10_; (try clear hb); (try clear hb2); (try clear hk); (try clear hi)))
             go_ret
             exact ⟨by first | rfl | (simp [errW_none, errW_some] <;> rfl) | (simp [*, errW_none, errW_some] <;> rfl), by repeat (first | (with_reducible first | exact HB.out | apply zA | apply zN | apply zD | refine zS ?_ GE204.out | refine zS ?_ GE222.out | refine zS ?_ GE229.out | refine zS ?_ GE240.out) | exact HB.out)⟩
       ·replace c75 := Bool.eq_false_iff.mpr c75
        subst c75
        have H1 : (some false) = some r := by rw [if_neg (show ¬ (false = true) by decide)] at H; exact H
        clear H
        have H := H1
        clear H1
        exact absurd (H.trans (congrArg some HR_.out)) (by decide)
      ·replace c72 := Bool.eq_false_iff.mpr c72
       subst c72
       have H1 : (some false) = some r := by rw [if_neg (show ¬ (false = true) by decide)] at H; exact H
       clear H
       have H := H1
       clear H1
       exact absurd (H.trans (congrArg some HR_.out)) (by decide)
def okS38 (x : S38) : Prop := (Lit.int .i64 x.f0).wf = true ∧ x.f1.size ≤ maxLen
/-- The one pure statement of laws_FnExactCrashDevice. -/
def laws_FnExactCrashDevice.PureG : Prop := ∀ (l0_0 : List ByteArray) (l0_1 : List (S38)) (l1 : List Bool), (l0_0.length ≤ maxLen ∧ ∀ x_ ∈ l0_0, x_.size ≤ maxLen) → (l0_1.length ≤ maxLen ∧ ∀ x_ ∈ l0_1, okS38 x_) → (l1.length ≤ maxLen) → ∃ k, laws_FnExactCrashDevice.f k l0_0 l0_1 l1 = some true

end Go.Proofs.Ytlhgkbleciokmaa.PFnExactCrashDevice
