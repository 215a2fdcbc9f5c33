/- The walks of FnExactPlayDevice: Go's calls come to what the Lean functions beside them say; no condition. -/
import Derived.Test.YtlhgkbleciokmaaQFnExactPlayDevicex0
import Derived.Test.YtlhgkbleciokmaaQFnExactPlayDevicex1
import Derived.Test.YtlhgkbleciokmaaQFnExactPlayDevicex2
import Derived.Test.YtlhgkbleciokmaaQFnExactPlayDevicex3
import Derived.Test.YtlhgkbleciokmaaQFnExactPlayDevicex4
import Derived.Test.YtlhgkbleciokmaaQFnExactPlayDevicex5
import Derived.Test.YtlhgkbleciokmaaQFnExactPlayDevicex8
namespace Go.Proofs.Ytlhgkbleciokmaa.PFnExactPlayDevice
open Go.RowKit Go.Proofs.YtlhgkbleciokmaaW.PrintWords Go.Proofs.YtlhgkbleciokmaaW.PrintLast Go.Proofs.YtlhgkbleciokmaaW.PrintMore
attribute [local go_sem] max2_int min2_int max_two min_two max_three min_three max_four min_four   -- for this text's walks alone
set_option linter.unusedVariables false
set_option linter.unusedSimpArgs false
set_option maxRecDepth 100000

/-! ### laws_FnExactPlayDevice: function 10 -/
mutual
def laws_FnExactPlayDevice.j0 : Nat → Int → List (S38) → Bool → List (S42) → Bool → Bool → List ByteArray → List (S42) → List ByteArray → List (S42) → Option (Bool)
 | 0, _, _, _, _, _, _, _, _, _, _ => none
 | k + 1, x0, x1, x7, x8, x10, x44, x298000, x298001, x309000, x309001 => if x44 = true then (some false) else ((laws_toWriteS.f k x1).bind fun t310 => ((laws_eqWriteS.f k x8 t310).bind fun t313 => (if t313 = true then ((laws_markWriteS.f k x8 1).bind fun bt314 => (if bt314.1 < 0 then (laws_FnExactPlayDevice.j1 k x0 x1 x7 true x298000 x298001 x309000 x309001) else ((laws_eqDevice.f k x309000 x309001 x298000 x298001).bind fun t316 => (if t316 = true then (laws_FnExactPlayDevice.j1 k x0 x1 x7 (x10 != x7) x298000 x298001 x309000 x309001) else (laws_FnExactPlayDevice.j1 k x0 x1 x7 true x298000 x298001 x309000 x309001))))) else (some false))))
def laws_FnExactPlayDevice.j1 : Nat → Int → List (S38) → Bool → Bool → List ByteArray → List (S42) → List ByteArray → List (S42) → Option (Bool)
 | 0, _, _, _, _, _, _, _, _ => none
 | k + 1, x0, x1, x7, x65, x298000, x298001, x309000, x309001 => if x65 = true then (some false) else ((laws_markDevice.f k x309000 x309001 1).bind fun bt317 => ((laws_heldDevice.f k bt317.2.1 bt317.2.2 1).bind fun t320 => (if t320 < 0 then (some false) else (if t320 = bt317.1 then ((laws_toWriteS.f k x1).bind fun t321 => ((impl_PlayDevice.f k x0 t321).bind fun bt324 => ((laws_eqDevice.f k bt324.1 bt324.2.1 x298000 x298001).bind fun t332 => (if t332 = true then (laws_FnExactPlayDevice.j2 k bt317.1 (bt324.2.2 != x7) bt317.2.1 bt317.2.2) else (laws_FnExactPlayDevice.j2 k bt317.1 true bt317.2.1 bt317.2.2))))) else (some false)))))
def laws_FnExactPlayDevice.j2 : Nat → Int → Bool → List ByteArray → List (S42) → Option (Bool)
 | 0, _, _, _, _ => none
 | k + 1, x12, x92, x309000, x309001 => if x92 = true then (some false) else ((laws_heldDevice.f k x309000 x309001 1).bind fun t333 => (if t333 < 0 then (some false) else (if t333 = x12 then (some true) else (some false))))
end
def laws_FnExactPlayDevice.f (k : Nat) (a0 : Int) (l1 : List (S38)) : Option (Bool) := (laws_szWriteS.f k l1 1048576).bind fun t286 => (if t286 < 0 then (some true) else ((laws_toWriteS.f k l1).bind fun t287 => ((spec_PlayDevice.f k a0 t287).bind fun bt290 => ((laws_toWriteS.f k l1).bind fun t298 => ((impl_PlayDevice.f k a0 t298).bind fun bt301 => ((laws_eqDevice.f k bt301.1 bt301.2.1 bt290.1 bt290.2.1).bind fun t309 => (if t309 = true then (laws_FnExactPlayDevice.j0 k a0 l1 bt290.2.2 t298 bt301.2.2 (bt301.2.2 != bt290.2.2) bt290.1 bt290.2.1 bt301.1 bt301.2.1) else (laws_FnExactPlayDevice.j0 k a0 l1 bt290.2.2 t298 bt301.2.2 true bt290.1 bt290.2.1 bt301.1 bt301.2.1))))))))
theorem laws_FnExactPlayDevice.mono_l : ∀ k, (∀ y0 y1 y2 y3 y4 y5 y6 y7 y8 y9, LeO (laws_FnExactPlayDevice.j0 k y0 y1 y2 y3 y4 y5 y6 y7 y8 y9) (laws_FnExactPlayDevice.j0 (k + 1) y0 y1 y2 y3 y4 y5 y6 y7 y8 y9)) ∧ (∀ y0 y1 y2 y3 y4 y5 y6 y7, LeO (laws_FnExactPlayDevice.j1 k y0 y1 y2 y3 y4 y5 y6 y7) (laws_FnExactPlayDevice.j1 (k + 1) y0 y1 y2 y3 y4 y5 y6 y7)) ∧ (∀ y0 y1 y2 y3, LeO (laws_FnExactPlayDevice.j2 k y0 y1 y2 y3) (laws_FnExactPlayDevice.j2 (k + 1) y0 y1 y2 y3))
 | 0 => ⟨fun _ _ _ _ _ _ _ _ _ _ r h => by simp [laws_FnExactPlayDevice.j0] at h, fun _ _ _ _ _ _ _ _ r h => by simp [laws_FnExactPlayDevice.j1] at h, fun _ _ _ _ r h => by simp [laws_FnExactPlayDevice.j2] at h⟩
 | k + 1 => by
  obtain ⟨ih0, ih1, ih2⟩ := laws_FnExactPlayDevice.mono_l k
  refine ⟨?_, ?_, ?_⟩
  ·intro y0 y1 y2 y3 y4 y5 y6 y7 y8 y9
   unfold laws_FnExactPlayDevice.j0
   repeat' first
   | (with_reducible exact ih0 _ _ _ _ _ _ _ _ _ _)
   | (with_reducible exact ih1 _ _ _ _ _ _ _ _)
   | (with_reducible exact ih2 _ _ _ _)
   | (with_reducible exact impl_PlayDevice.mono _ _ _)
   | (with_reducible exact laws_eqDevice.mono _ _ _ _ _)
   | (with_reducible exact laws_eqWriteS.mono _ _ _)
   | (with_reducible exact laws_heldDevice.mono _ _ _ _)
   | (with_reducible exact laws_markDevice.mono _ _ _ _)
   | (with_reducible exact laws_markWriteS.mono _ _ _)
   | (with_reducible exact laws_szWriteS.mono _ _ _)
   | (with_reducible exact laws_toWriteS.mono _ _)
   | (with_reducible exact spec_PlayDevice.mono _ _ _)
   | (with_reducible exact LeO.refl _)
   | (with_reducible exact LeO.none _)
   | (with_reducible refine LeO.ite ?_ ?_)
   | (with_reducible refine LeO.bind ?_ (fun _ => ?_))
   | exact ih0 _ _ _ _ _ _ _ _ _ _
   | exact ih1 _ _ _ _ _ _ _ _
   | exact ih2 _ _ _ _
   | exact impl_PlayDevice.mono _ _ _
   | exact laws_eqDevice.mono _ _ _ _ _
   | exact laws_eqWriteS.mono _ _ _
   | exact laws_heldDevice.mono _ _ _ _
   | exact laws_markDevice.mono _ _ _ _
   | exact laws_markWriteS.mono _ _ _
   | exact laws_szWriteS.mono _ _ _
   | exact laws_toWriteS.mono _ _
   | exact spec_PlayDevice.mono _ _ _
   | exact LeO.none _
   | refine LeO.ite ?_ ?_
   | refine LeO.bind ?_ (fun _ => ?_)
  ·intro y0 y1 y2 y3 y4 y5 y6 y7
   unfold laws_FnExactPlayDevice.j1
   repeat' first
   | (with_reducible exact ih0 _ _ _ _ _ _ _ _ _ _)
   | (with_reducible exact ih1 _ _ _ _ _ _ _ _)
   | (with_reducible exact ih2 _ _ _ _)
   | (with_reducible exact impl_PlayDevice.mono _ _ _)
   | (with_reducible exact laws_eqDevice.mono _ _ _ _ _)
   | (with_reducible exact laws_eqWriteS.mono _ _ _)
   | (with_reducible exact laws_heldDevice.mono _ _ _ _)
   | (with_reducible exact laws_markDevice.mono _ _ _ _)
   | (with_reducible exact laws_markWriteS.mono _ _ _)
   | (with_reducible exact laws_szWriteS.mono _ _ _)
   | (with_reducible exact laws_toWriteS.mono _ _)
   | (with_reducible exact spec_PlayDevice.mono _ _ _)
   | (with_reducible exact LeO.refl _)
   | (with_reducible exact LeO.none _)
   | (with_reducible refine LeO.ite ?_ ?_)
   | (with_reducible refine LeO.bind ?_ (fun _ => ?_))
   | exact ih0 _ _ _ _ _ _ _ _ _ _
   | exact ih1 _ _ _ _ _ _ _ _
   | exact ih2 _ _ _ _
   | exact impl_PlayDevice.mono _ _ _
   | exact laws_eqDevice.mono _ _ _ _ _
   | exact laws_eqWriteS.mono _ _ _
   | exact laws_heldDevice.mono _ _ _ _
   | exact laws_markDevice.mono _ _ _ _
   | exact laws_markWriteS.mono _ _ _
   | exact laws_szWriteS.mono _ _ _
   | exact laws_toWriteS.mono _ _
   | exact spec_PlayDevice.mono _ _ _
   | exact LeO.none _
   | refine LeO.ite ?_ ?_
   | refine LeO.bind ?_ (fun _ => ?_)
  ·intro y0 y1 y2 y3
   unfold laws_FnExactPlayDevice.j2
   repeat' first
   | (with_reducible exact ih0 _ _ _ _ _ _ _ _ _ _)
   | (with_reducible exact ih1 _ _ _ _ _ _ _ _)
   | (with_reducible exact ih2 _ _ _ _)
   | (with_reducible exact impl_PlayDevice.mono _ _ _)
   | (with_reducible exact laws_eqDevice.mono _ _ _ _ _)
   | (with_reducible exact laws_eqWriteS.mono _ _ _)
   | (with_reducible exact laws_heldDevice.mono _ _ _ _)
   | (with_reducible exact laws_markDevice.mono _ _ _ _)
   | (with_reducible exact laws_markWriteS.mono _ _ _)
   | (with_reducible exact laws_szWriteS.mono _ _ _)
   | (with_reducible exact laws_toWriteS.mono _ _)
   | (with_reducible exact spec_PlayDevice.mono _ _ _)
   | (with_reducible exact LeO.refl _)
   | (with_reducible exact LeO.none _)
   | (with_reducible refine LeO.ite ?_ ?_)
   | (with_reducible refine LeO.bind ?_ (fun _ => ?_))
   | exact ih0 _ _ _ _ _ _ _ _ _ _
   | exact ih1 _ _ _ _ _ _ _ _
   | exact ih2 _ _ _ _
   | exact impl_PlayDevice.mono _ _ _
   | exact laws_eqDevice.mono _ _ _ _ _
   | exact laws_eqWriteS.mono _ _ _
   | exact laws_heldDevice.mono _ _ _ _
   | exact laws_markDevice.mono _ _ _ _
   | exact laws_markWriteS.mono _ _ _
   | exact laws_szWriteS.mono _ _ _
   | exact laws_toWriteS.mono _ _
   | exact spec_PlayDevice.mono _ _ _
   | exact LeO.none _
   | refine LeO.ite ?_ ?_
   | refine LeO.bind ?_ (fun _ => ?_)
theorem laws_FnExactPlayDevice.mono : ∀ a0 a1 k, LeO (laws_FnExactPlayDevice.f k a0 a1) (laws_FnExactPlayDevice.f (k + 1) a0 a1) := by
 intro a0 a1 k
 obtain ⟨ih0, ih1, ih2⟩ := laws_FnExactPlayDevice.mono_l k
 unfold laws_FnExactPlayDevice.f
 repeat' first
   | (with_reducible exact ih0 _ _ _ _ _ _ _ _ _ _)
   | (with_reducible exact ih1 _ _ _ _ _ _ _ _)
   | (with_reducible exact ih2 _ _ _ _)
   | (with_reducible exact impl_PlayDevice.mono _ _ _)
   | (with_reducible exact laws_eqDevice.mono _ _ _ _ _)
   | (with_reducible exact laws_eqWriteS.mono _ _ _)
   | (with_reducible exact laws_heldDevice.mono _ _ _ _)
   | (with_reducible exact laws_markDevice.mono _ _ _ _)
   | (with_reducible exact laws_markWriteS.mono _ _ _)
   | (with_reducible exact laws_szWriteS.mono _ _ _)
   | (with_reducible exact laws_toWriteS.mono _ _)
   | (with_reducible exact spec_PlayDevice.mono _ _ _)
   | (with_reducible exact LeO.refl _)
   | (with_reducible exact LeO.none _)
   | (with_reducible refine LeO.ite ?_ ?_)
   | (with_reducible refine LeO.bind ?_ (fun _ => ?_))
   | exact ih0 _ _ _ _ _ _ _ _ _ _
   | exact ih1 _ _ _ _ _ _ _ _
   | exact ih2 _ _ _ _
   | exact impl_PlayDevice.mono _ _ _
   | exact laws_eqDevice.mono _ _ _ _ _
   | exact laws_eqWriteS.mono _ _ _
   | exact laws_heldDevice.mono _ _ _ _
   | exact laws_markDevice.mono _ _ _ _
   | exact laws_markWriteS.mono _ _ _
   | exact laws_szWriteS.mono _ _ _
   | exact laws_toWriteS.mono _ _
   | exact spec_PlayDevice.mono _ _ _
   | exact LeO.none _
   | refine LeO.ite ?_ ?_
   | refine LeO.bind ?_ (fun _ => ?_)
set_option maxHeartbeats 8000000 in
set_option maxRecDepth 100000 in
theorem laws_FnExactPlayDevice.calls (k : Nat) (a0 : Int) (A1 : Option Addr) (c1 : Nat) (l1 : List (S38)) (r : Bool) (w : World) (hr1 : Kd.C k38 w A1 l1.length l1) (hc1 : l1.length ≤ c1) (h : laws_FnExactPlayDevice.f k a0 l1 = some r) (hr_ : r = true := by rfl) :
  Calls Try.prog 10 #[.int .i64 a0, .slice A1 l1.length c1] w fun e w' => e = .returned (.bool r) ∧ Below w.heap.size w w' := by
 have HR_ := aM hr_
 clear hr_
 have hu30 := Try.underlying30
 have HR1 := aM hr1
 have HC1 := aM hc1
 clear hr1 hc1
 have HB := aM (Below.refl w.heap.size w)
 have H : ((laws_szWriteS.f k l1 1048576).bind fun t286 => (if t286 < 0 then (some true) else ((laws_toWriteS.f k l1).bind fun t287 => ((spec_PlayDevice.f k a0 t287).bind fun bt290 => ((laws_toWriteS.f k l1).bind fun t298 => ((impl_PlayDevice.f k a0 t298).bind fun bt301 => ((laws_eqDevice.f k bt301.1 bt301.2.1 bt290.1 bt290.2.1).bind fun t309 => (if t309 = true then (laws_FnExactPlayDevice.j0 k a0 l1 bt290.2.2 t298 bt301.2.2 (bt301.2.2 != bt290.2.2) bt290.1 bt290.2.1 bt301.1 bt301.2.1) else (laws_FnExactPlayDevice.j0 k a0 l1 bt290.2.2 t298 bt301.2.2 true bt290.1 bt290.2.1 bt301.1 bt301.2.1))))))))) = some r := h
 clear h
 replace H := Option.bind_eq_some_iff.mp H
 obtain ⟨t286, A30, H⟩ := H
 replace H : (if t286 < 0 then (some true) else ((laws_toWriteS.f k l1).bind fun t287 => ((spec_PlayDevice.f k a0 t287).bind fun bt290 => ((laws_toWriteS.f k l1).bind fun t298 => ((impl_PlayDevice.f k a0 t298).bind fun bt301 => ((laws_eqDevice.f k bt301.1 bt301.2.1 bt290.1 bt290.2.1).bind fun t309 => (if t309 = true then (laws_FnExactPlayDevice.j0 k a0 l1 bt290.2.2 t298 bt301.2.2 (bt301.2.2 != bt290.2.2) bt290.1 bt290.2.1 bt301.1 bt301.2.1) else (laws_FnExactPlayDevice.j0 k a0 l1 bt290.2.2 t298 bt301.2.2 true bt290.1 bt290.2.1 bt301.1 bt301.2.1)))))))) = some r := H
 have A3 := aM A30
 clear A30
 by_cases c4 : t286 < 0
 ·rw [if_pos c4] at H
  have c4b0 : decide (t286 < 0) = true := decide_eq_true c4
  clear c4
  obtain rfl := Option.some.inj H
  go_enter Try.func10, Try.ntmps10
  go_wp2_with (first | ((with_reducible refine gate_callee (f := 37) rfl ?_); refine goesL_ (some 18) rfl rfl Try.func37 (by kernel_rfl) rfl #[.slice A1 l1.length c1, .int .i64 1048576] rfl (by (try simp only [List.map_toArray, List.map_cons, List.map_nil]); first | done | rfl | (simp only [List.length_drop, List.length_take]; rfl)) ?_; (with_reducible refine (laws_szWriteS.calls k _ _ l1 1048576 t286 _ ?side1 ?side2 A3.out).mono ?_); (case side1 => repeat (first | exact HR1.out | (with_reducible refine cA ?_ _) | (with_reducible refine cN ?_ _) | (with_reducible refine cD ?_))); (case side2 => exact HC1.out); rintro e w5 ⟨rfl, hb⟩; refine ⟨_, rfl, ?_⟩; replace HB := aM (zT (zH HB.out) hb); (try clear hb)))
  go_ret
  exact ⟨by first | rfl | (simp [errW_none, errW_some] <;> rfl) | (simp [*, errW_none, errW_some] <;> rfl), zH HB.out⟩
 ·rw [if_neg c4] at H
  have c4b0 : decide (t286 < 0) = false := decide_eq_false c4
  clear c4
  replace H := Option.bind_eq_some_iff.mp H
  obtain ⟨t287, A60, H⟩ := H
  replace H : ((spec_PlayDevice.f k a0 t287).bind fun bt290 => ((laws_toWriteS.f k l1).bind fun t298 => ((impl_PlayDevice.f k a0 t298).bind fun bt301 => ((laws_eqDevice.f k bt301.1 bt301.2.1 bt290.1 bt290.2.1).bind fun t309 => (if t309 = true then (laws_FnExactPlayDevice.j0 k a0 l1 bt290.2.2 t298 bt301.2.2 (bt301.2.2 != bt290.2.2) bt290.1 bt290.2.1 bt301.1 bt301.2.1) else (laws_FnExactPlayDevice.j0 k a0 l1 bt290.2.2 t298 bt301.2.2 true bt290.1 bt290.2.1 bt301.1 bt301.2.1)))))) = some r := H
  have A6 := aM A60
  clear A60
  replace H := Option.bind_eq_some_iff.mp H
  obtain ⟨⟨t290, t293, t296⟩, A70, H⟩ := H
  replace H : ((laws_toWriteS.f k l1).bind fun t298 => ((impl_PlayDevice.f k a0 t298).bind fun bt301 => ((laws_eqDevice.f k bt301.1 bt301.2.1 t290 t293).bind fun t309 => (if t309 = true then (laws_FnExactPlayDevice.j0 k a0 l1 t296 t298 bt301.2.2 (bt301.2.2 != t296) t290 t293 bt301.1 bt301.2.1) else (laws_FnExactPlayDevice.j0 k a0 l1 t296 t298 bt301.2.2 true t290 t293 bt301.1 bt301.2.1))))) = some r := H
  have A7 := aM A70
  clear A70
  replace H := Option.bind_eq_some_iff.mp H
  obtain ⟨t298, A80, H⟩ := H
  replace H : ((impl_PlayDevice.f k a0 t298).bind fun bt301 => ((laws_eqDevice.f k bt301.1 bt301.2.1 t290 t293).bind fun t309 => (if t309 = true then (laws_FnExactPlayDevice.j0 k a0 l1 t296 t298 bt301.2.2 (bt301.2.2 != t296) t290 t293 bt301.1 bt301.2.1) else (laws_FnExactPlayDevice.j0 k a0 l1 t296 t298 bt301.2.2 true t290 t293 bt301.1 bt301.2.1)))) = some r := H
  have A8 := aM A80
  clear A80
  replace H := Option.bind_eq_some_iff.mp H
  obtain ⟨⟨t301, t304, t307⟩, A90, H⟩ := H
  replace H : ((laws_eqDevice.f k t301 t304 t290 t293).bind fun t309 => (if t309 = true then (laws_FnExactPlayDevice.j0 k a0 l1 t296 t298 t307 (t307 != t296) t290 t293 t301 t304) else (laws_FnExactPlayDevice.j0 k a0 l1 t296 t298 t307 true t290 t293 t301 t304))) = some r := H
  have A9 := aM A90
  clear A90
  have HC10 := aM H
  clear H
  go_enter Try.func10, Try.ntmps10
  go_upto_region 8 with (first | ((with_reducible refine gate_callee (f := 37) rfl ?_); refine goesL_ (some 18) rfl rfl Try.func37 (by kernel_rfl) rfl #[.slice A1 l1.length c1, .int .i64 1048576] rfl (by (try simp only [List.map_toArray, List.map_cons, List.map_nil]); first | done | rfl | (simp only [List.length_drop, List.length_take]; rfl)) ?_; (with_reducible refine (laws_szWriteS.calls k _ _ l1 1048576 t286 _ ?side1 ?side2 A3.out).mono ?_); (case side1 => repeat (first | exact HR1.out | (with_reducible refine cA ?_ _) | (with_reducible refine cN ?_ _) | (with_reducible refine cD ?_))); (case side2 => exact HC1.out); rintro e w11 ⟨rfl, hb⟩; refine ⟨_, rfl, ?_⟩; replace HB := aM (zT (zH HB.out) hb); (try clear hb)) | ((with_reducible refine gate_callee (f := 39) rfl ?_); refine goesL_ (some 24) rfl rfl Try.func39 (by kernel_rfl) rfl #[.slice A1 l1.length c1] rfl (by (try simp only [List.map_toArray, List.map_cons, List.map_nil]); first | done | rfl | (simp only [List.length_drop, List.length_take]; rfl)) ?_; (with_reducible refine (laws_toWriteS.calls k _ _ l1 t287 _ ?side1 ?side2 A6.out).mono ?_); (case side1 => exact cK HR1.out HB.out); (case side2 => exact HC1.out); rintro e w12 ⟨v288, rfl, ho0, hb⟩; refine ⟨_, rfl, ?_⟩; have HO289 := aM (xL ho0 (zZ (zH HB.out))); replace HB := aM (zT (zH HB.out) hb); (try clear hb); (try clear ho0); obtain ⟨Ao13, co13, eo13⟩ := Kd.R_slice HO289.out; subst eo13) | ((with_reducible refine gate_callee (f := 38) rfl ?_); refine goesL_ (some 25) rfl rfl Try.func38 (by kernel_rfl) rfl #[.int .i64 a0, .slice Ao13 t287.length co13] rfl (by (try simp only [List.map_toArray, List.map_cons, List.map_nil]); first | done | rfl | (simp only [List.length_drop, List.length_take]; rfl)) ?_; (with_reducible refine (spec_PlayDevice.calls k a0 _ _ t287 t290 t293 t296 _ ?side1 ?side2 A7.out).mono ?_); (case side1 => repeat (first | exact (Kd.R_reads' HO289.out).2.2 | (with_reducible refine cA ?_ _) | (with_reducible refine cN ?_ _) | (with_reducible refine cD ?_))); (case side2 => exact (Kd.R_reads' HO289.out).2.1); rintro e w14 ⟨v291, v294, rfl, ho0, ho1, hb⟩; refine ⟨_, rfl, ?_⟩; have HO292 := aM (xL ho0 (zZ (zH HB.out))); have HO295 := aM (xL (Kd.R_new' ho1 (Kd.R_lt (xH HO289.out))) (zZ (zH HB.out))); replace HO289 := aM (Kd.R_elder' (xH HO289.out) (Kd.R_base ho1) hb); replace HB := aM (zT (zH HB.out) hb); (try clear hb); (try clear ho0); (try clear ho1)) | ((with_reducible refine gate_dst (N := 6) rfl ?_); refine box_event ?hg (N := 6) ?hd (cs := #[.slice none 0 0, .slice none 0 0]) (t := 30) ?hr ?_; (case hd => rfl); (case hg => rfl); (case hr => first | (go_simp; done) | (go_simp; rfl)); intro gb297 hg w15 hbox hb; replace HO289 := xK HO289.out hb; replace HO292 := xK HO292.out hb; replace HO295 := xK HO295.out hb; have BK297 := aM (hbox); have GW297 := aM ((by rw [hg]; exact (zZ (zH HB.out)) : w.heap.size ≤ gb297)); have GE297 := aM ((by rw [hg]; exact (zZ (zH HB.out)) : w.heap.size ≤ gb297)); replace HB := aM (zT (zH HB.out) hb); clear hb hbox hg; obtain ⟨Ao16, co16, eo16⟩ := Kd.R_slice HO292.out; subst eo16; have hcz17_0 : w15.cell? ⟨gb297, 0, none⟩ = some (.slice none 0 0) := yc BK297.out 0; have hcz17_1 : w15.cell? ⟨gb297, 1, none⟩ = some (.slice none 0 0) := yc BK297.out 1; have hfz17_0 := yZ BK297.out 0; have hfz17_1 := yZ BK297.out 1; obtain ⟨Ao18, co18, eo18⟩ := Kd.R_slice HO295.out; subst eo18) | ((with_reducible refine gate_callee (f := 39) rfl ?_); refine goesL_ (some 29) rfl rfl Try.func39 (by kernel_rfl) rfl #[.slice A1 l1.length c1] rfl (by (try simp only [List.map_toArray, List.map_cons, List.map_nil]); first | done | rfl | (simp only [List.length_drop, List.length_take]; rfl)) ?_; (with_reducible refine (laws_toWriteS.calls k _ _ l1 t298 _ ?side1 ?side2 A8.out).mono ?_); (case side1 => exact cB HR1.out (zH HB.out)); (case side2 => exact HC1.out); rintro e w19 ⟨v299, rfl, ho0, hb⟩; refine ⟨_, rfl, ?_⟩; replace HO292 := aM (xB (xH ((x2 HO292.out BK297.out (by decide) (.slice Ao16 t290.length co16) (.slice Ao18 t293.length co18)))) hb); have HO300 := aM (xL (Kd.R_new' (Kd.R_new' ho0 (Kd.R_lt (xH ((x2 HO289.out BK297.out (by decide) (.slice Ao16 t290.length co16) (.slice Ao18 t293.length co18)))))) (Kd.R_lt (xH ((x2 HO295.out BK297.out (by decide) (.slice Ao16 t290.length co16) (.slice Ao18 t293.length co18)))))) (zZ (zH HB.out))); replace HO289 := aM (Kd.R_elder' (xH ((x2 HO289.out BK297.out (by decide) (.slice Ao16 t290.length co16) (.slice Ao18 t293.length co18)))) (Kd.R_base ho0) hb); replace HO295 := aM (Kd.R_elder' (xH ((x2 HO295.out BK297.out (by decide) (.slice Ao16 t290.length co16) (.slice Ao18 t293.length co18)))) (Kd.R_base ho0) hb); replace BK297 := aM (yB (g := gb297) (o := .cells #[.slice Ao16 t290.length co16, .slice Ao18 t293.length co18] 30 (0, 0)) (by (with_reducible repeat (first | refine yN ?_ _ | refine yD ?_ | refine yA ?_ _)); refine yP (cs := #[.slice Ao16 t290.length co16, .slice none 0 0]) ?_ 1 _ rfl; (with_reducible repeat (first | refine yN ?_ _ | refine yD ?_ | refine yA ?_ _)); refine yP (cs := #[.slice none 0 0, .slice none 0 0]) ?_ 0 _ rfl; (with_reducible repeat (first | refine yN ?_ _ | refine yD ?_ | refine yA ?_ _)); exact BK297.out) hb); replace HB := aM (zT (zH HB.out) hb); (try clear hb); (try clear ho0); obtain ⟨Ao20, co20, eo20⟩ := Kd.R_slice HO300.out; subst eo20) | ((with_reducible refine gate_callee (f := 40) rfl ?_); refine goesL_ (some 33) rfl rfl Try.func40 (by kernel_rfl) rfl #[.int .i64 a0, .slice Ao20 t298.length co20] rfl (by (try simp only [List.map_toArray, List.map_cons, List.map_nil]); first | done | rfl | (simp only [List.length_drop, List.length_take]; rfl)) ?_; (with_reducible refine (impl_PlayDevice.calls k a0 _ _ t298 t301 t304 t307 _ ?side1 ?side2 A9.out).mono ?_); (case side1 => repeat (first | exact (Kd.R_reads' HO300.out).2.2 | (with_reducible refine cA ?_ _) | (with_reducible refine cN ?_ _) | (with_reducible refine cD ?_))); (case side2 => exact (Kd.R_reads' HO300.out).2.1); rintro e w21 ⟨v302, v305, rfl, ho0, ho1, hb⟩; refine ⟨_, rfl, ?_⟩; have HO303 := aM (xL (Kd.R_new' ho0 (Kd.R_lt (xH HO292.out))) (zZ (zH HB.out))); replace HO292 := aM (Kd.R_elder' (xH HO292.out) (Kd.R_base ho0) hb); have HO306 := aM (xL (Kd.R_new' (Kd.R_new' (Kd.R_new' ho1 (Kd.R_lt (xH HO289.out))) (Kd.R_lt (xH HO295.out))) (Kd.R_lt (xH HO300.out))) (zZ (zH HB.out))); replace HO289 := aM (Kd.R_elder' (xH HO289.out) (Kd.R_base ho1) hb); replace HO295 := aM (Kd.R_elder' (xH HO295.out) (Kd.R_base ho1) hb); replace HO300 := aM (Kd.R_elder' (xH HO300.out) (Kd.R_base ho1) hb); replace BK297 := yK BK297.out hb; replace HB := aM (zT (zH HB.out) hb); (try clear hb); (try clear ho0); (try clear ho1)) | ((with_reducible refine gate_dst (N := 9) rfl ?_); refine box_event ?hg (N := 9) ?hd (cs := #[.slice none 0 0, .slice none 0 0]) (t := 30) ?hr ?_; (case hd => rfl); (case hg => rfl); (case hr => first | (go_simp; done) | (go_simp; rfl)); intro gb308 hg w22 hbox hb; replace HO289 := xK HO289.out hb; replace HO292 := xK HO292.out hb; replace HO295 := xK HO295.out hb; replace HO300 := xK HO300.out hb; replace HO303 := xK HO303.out hb; replace HO306 := xK HO306.out hb; have BK308 := aM (hbox); have GW308 := aM ((by rw [hg]; exact (zZ (zH HB.out)) : w.heap.size ≤ gb308)); have GE308 := aM ((by rw [hg]; exact (zZ (zH HB.out)) : w.heap.size ≤ gb308)); replace HB := aM (zT (zH HB.out) hb); have NB297_308 := nL BK297.out hg; have NB308_297 := nR BK297.out hg; replace BK297 := yK BK297.out hb; clear hb hbox hg; obtain ⟨Ao23, co23, eo23⟩ := Kd.R_slice HO303.out; subst eo23; have hnb24 := NB308_297.out; have hnc24 := NB297_308.out; have hcz25_0 : w22.cell? ⟨gb308, 0, none⟩ = some (.slice none 0 0) := yc BK308.out 0; have hcz25_1 : w22.cell? ⟨gb308, 1, none⟩ = some (.slice none 0 0) := yc BK308.out 1; have hfz25_0 := yZ BK308.out 0; have hfz25_1 := yZ BK308.out 1; obtain ⟨Ao26, co26, eo26⟩ := Kd.R_slice HO306.out; subst eo26))
  (try simp only [Act.put, qA, qB, qC])
  go_cut [44] (fun v44 wc => ∃ (kq : Nat) (x44_9 : Bool), v44 = .bool x44_9 ∧ Aside0 (laws_FnExactPlayDevice.j0 kq a0 l1 t296 t298 t307 x44_9 t290 t293 t301 t304 = some r) ∧ Aside0 (kq ≤ k) ∧ Aside0 (Kd.R k42 42 wc w.heap.size (fun k_ => some k_ ≠ oB Ao18 t293.length co18 ∧ some k_ ≠ oB Ao26 t304.length co26) (.slice Ao20 t298.length co20) t298) ∧ Aside0 (Kd.R Kd.string 9 wc w.heap.size (fun k_ => some k_ ≠ oB Ao23 t301.length co23) (.slice Ao16 t290.length co16) t290) ∧ Aside0 (Kd.R k42 42 wc w.heap.size (fun k_ => some k_ ≠ oB Ao20 t298.length co20 ∧ some k_ ≠ oB Ao26 t304.length co26) (.slice Ao18 t293.length co18) t293) ∧ Aside0 (Kd.R Kd.string 9 wc w.heap.size (fun k_ => some k_ ≠ oB Ao16 t290.length co16) (.slice Ao23 t301.length co23) t301) ∧ Aside0 (Kd.R k42 42 wc w.heap.size (fun k_ => some k_ ≠ oB Ao20 t298.length co20 ∧ some k_ ≠ oB Ao18 t293.length co18) (.slice Ao26 t304.length co26) t304) ∧ Aside0 (wc.heap[gb297]? = some (.cells #[(.slice Ao16 t290.length co16), (.slice Ao18 t293.length co18)] 30 (0, 0))) ∧ Aside0 (wc.heap[gb308]? = some (.cells #[(.slice Ao23 t301.length co23), (.slice Ao26 t304.length co26)] 30 (0, 0))) ∧ Aside0 (Below w.heap.size w wc))
  case first =>
   have H := HC10.out
   clear HC10
   replace H := Option.bind_eq_some_iff.mp H
   obtain ⟨t309, A270, H⟩ := H
   replace H : (if t309 = true then (laws_FnExactPlayDevice.j0 k a0 l1 t296 t298 t307 (t307 != t296) t290 t293 t301 t304) else (laws_FnExactPlayDevice.j0 k a0 l1 t296 t298 t307 true t290 t293 t301 t304)) = some r := H
   have A27 := aM A270
   clear A270
   by_cases c28 : t309 = true
   ·subst c28
    have H1 : (laws_FnExactPlayDevice.j0 k a0 l1 t296 t298 t307 (t307 != t296) t290 t293 t301 t304) = some r := by rw [if_pos rfl] at H; exact H
    clear H
    have H := H1
    clear H1
    have H' := aM H
    clear H
    have hnb29 := NB308_297.out
    have hnc29 := NB297_308.out
    have hcz30_0 : w22.cell? ⟨gb308, 0, none⟩ = some (.slice none 0 0) := yc BK308.out 0
    have hcz30_1 : w22.cell? ⟨gb308, 1, none⟩ = some (.slice none 0 0) := yc BK308.out 1
    have hfz30_0 := yZ BK308.out 0
    have hfz30_1 := yZ BK308.out 1
    have hcz31_0 : w22.cell? ⟨gb297, 0, none⟩ = some (.slice Ao16 t290.length co16) := yc BK297.out 0
    have hcz31_1 : w22.cell? ⟨gb297, 1, none⟩ = some (.slice Ao18 t293.length co18) := yc BK297.out 1
    have hfz31_0 := yZ BK297.out 0
    have hfz31_1 := yZ BK297.out 1
    go_wp2_with (first | ((with_reducible refine gate_callee (f := 17) rfl ?_); refine goesL_ (some 38) rfl rfl Try.func17 (by kernel_rfl) rfl #[.agg #[.slice Ao23 t301.length co23, .slice Ao26 t304.length co26], .agg #[.slice Ao16 t290.length co16, .slice Ao18 t293.length co18]] rfl (by (try simp only [List.map_toArray, List.map_cons, List.map_nil]); first | done | rfl | (simp only [List.length_drop, List.length_take]; rfl)) ?_; (with_reducible refine (laws_eqDevice.calls k _ _ t301 _ _ t304 _ _ t290 _ _ t293 true _ ?side1 ?side2 ?side3 ?side4 ?side5 ?side6 ?side7 ?side8 A27.out).mono ?_); (case side1 => exact rC (n := t301.length) (c := co23) ((x2 HO303.out BK308.out (by decide) (.slice Ao23 t301.length co23) (.slice Ao26 t304.length co26)))); (case side2 => exact (Kd.R_reads' HO303.out).2.1); (case side3 => exact rC (n := t304.length) (c := co26) ((x2 HO306.out BK308.out (by decide) (.slice Ao23 t301.length co23) (.slice Ao26 t304.length co26)))); (case side4 => exact (Kd.R_reads' HO306.out).2.1); (case side5 => exact rC (n := t290.length) (c := co16) ((x2 HO292.out BK308.out (by decide) (.slice Ao23 t301.length co23) (.slice Ao26 t304.length co26)))); (case side6 => exact (Kd.R_reads' HO292.out).2.1); (case side7 => exact rC (n := t293.length) (c := co18) ((x2 HO295.out BK308.out (by decide) (.slice Ao23 t301.length co23) (.slice Ao26 t304.length co26)))); (case side8 => exact (Kd.R_reads' HO295.out).2.1); rintro e w32 ⟨rfl, hb⟩; refine ⟨_, rfl, ?_⟩; replace HO289 := aM (xB (xH ((x2 HO289.out BK308.out (by decide) (.slice Ao23 t301.length co23) (.slice Ao26 t304.length co26)))) hb); replace HO292 := aM (xB (xH ((x2 HO292.out BK308.out (by decide) (.slice Ao23 t301.length co23) (.slice Ao26 t304.length co26)))) hb); replace HO295 := aM (xB (xH ((x2 HO295.out BK308.out (by decide) (.slice Ao23 t301.length co23) (.slice Ao26 t304.length co26)))) hb); replace HO300 := aM (xB (xH ((x2 HO300.out BK308.out (by decide) (.slice Ao23 t301.length co23) (.slice Ao26 t304.length co26)))) hb); replace HO303 := aM (xB (xH ((x2 HO303.out BK308.out (by decide) (.slice Ao23 t301.length co23) (.slice Ao26 t304.length co26)))) hb); replace HO306 := aM (xB (xH ((x2 HO306.out BK308.out (by decide) (.slice Ao23 t301.length co23) (.slice Ao26 t304.length co26)))) hb); replace BK297 := aM (yB (g := gb297) (o := .cells #[.slice Ao16 t290.length co16, .slice Ao18 t293.length co18] 30 (0, 0)) (by (with_reducible repeat (first | refine yN ?_ _ | refine yD ?_ | refine yA ?_ _)); refine yF ?_ NB297_308.out _; (with_reducible repeat (first | refine yN ?_ _ | refine yD ?_ | refine yA ?_ _)); refine yF ?_ NB297_308.out _; (with_reducible repeat (first | refine yN ?_ _ | refine yD ?_ | refine yA ?_ _)); exact BK297.out) hb); replace BK308 := aM (yB (g := gb308) (o := .cells #[.slice Ao23 t301.length co23, .slice Ao26 t304.length co26] 30 (0, 0)) (by (with_reducible repeat (first | refine yN ?_ _ | refine yD ?_ | refine yA ?_ _)); refine yP (cs := #[.slice Ao23 t301.length co23, .slice none 0 0]) ?_ 1 _ rfl; (with_reducible repeat (first | refine yN ?_ _ | refine yD ?_ | refine yA ?_ _)); refine yP (cs := #[.slice none 0 0, .slice none 0 0]) ?_ 0 _ rfl; (with_reducible repeat (first | refine yN ?_ _ | refine yD ?_ | refine yA ?_ _)); exact BK308.out) hb); replace HB := aM (zT (zH HB.out) hb); (try clear hb)))
    go_meet
    case rel => exact ⟨_, ((t307 != t296)), (by first | rfl | (simp; done) | (simp [*]; done)), H', ⟨by first | omega | exact Nat.le_refl _⟩, ⟨xH (xM HO300.out (fun _ hk => ⟨hk.1.2, hk.2⟩))⟩, ⟨xH (xM HO292.out (fun _ hk => hk.2))⟩, ⟨xH (xM HO295.out (fun _ hk => ⟨hk.1.2, hk.2⟩))⟩, ⟨xH (xM HO303.out (fun _ hk => hk.2))⟩, ⟨xH (xM HO306.out (fun _ hk => ⟨hk.2, hk.1.2⟩))⟩, ⟨yH BK297.out⟩, ⟨yH BK308.out⟩, ⟨zH HB.out⟩⟩
   ·replace c28 := Bool.eq_false_iff.mpr c28
    subst c28
    have H1 : (laws_FnExactPlayDevice.j0 k a0 l1 t296 t298 t307 true t290 t293 t301 t304) = some r := by rw [if_neg (show ¬ (false = true) by decide)] at H; exact H
    clear H
    have H := H1
    clear H1
    have H' := aM H
    clear H
    have hnb33 := NB308_297.out
    have hnc33 := NB297_308.out
    have hcz34_0 : w22.cell? ⟨gb308, 0, none⟩ = some (.slice none 0 0) := yc BK308.out 0
    have hcz34_1 : w22.cell? ⟨gb308, 1, none⟩ = some (.slice none 0 0) := yc BK308.out 1
    have hfz34_0 := yZ BK308.out 0
    have hfz34_1 := yZ BK308.out 1
    have hcz35_0 : w22.cell? ⟨gb297, 0, none⟩ = some (.slice Ao16 t290.length co16) := yc BK297.out 0
    have hcz35_1 : w22.cell? ⟨gb297, 1, none⟩ = some (.slice Ao18 t293.length co18) := yc BK297.out 1
    have hfz35_0 := yZ BK297.out 0
    have hfz35_1 := yZ BK297.out 1
    go_wp2_with (first | ((with_reducible refine gate_callee (f := 17) rfl ?_); refine goesL_ (some 38) rfl rfl Try.func17 (by kernel_rfl) rfl #[.agg #[.slice Ao23 t301.length co23, .slice Ao26 t304.length co26], .agg #[.slice Ao16 t290.length co16, .slice Ao18 t293.length co18]] rfl (by (try simp only [List.map_toArray, List.map_cons, List.map_nil]); first | done | rfl | (simp only [List.length_drop, List.length_take]; rfl)) ?_; (with_reducible refine (laws_eqDevice.calls k _ _ t301 _ _ t304 _ _ t290 _ _ t293 false _ ?side1 ?side2 ?side3 ?side4 ?side5 ?side6 ?side7 ?side8 A27.out).mono ?_); (case side1 => exact rC (n := t301.length) (c := co23) ((x2 HO303.out BK308.out (by decide) (.slice Ao23 t301.length co23) (.slice Ao26 t304.length co26)))); (case side2 => exact (Kd.R_reads' HO303.out).2.1); (case side3 => exact rC (n := t304.length) (c := co26) ((x2 HO306.out BK308.out (by decide) (.slice Ao23 t301.length co23) (.slice Ao26 t304.length co26)))); (case side4 => exact (Kd.R_reads' HO306.out).2.1); (case side5 => exact rC (n := t290.length) (c := co16) ((x2 HO292.out BK308.out (by decide) (.slice Ao23 t301.length co23) (.slice Ao26 t304.length co26)))); (case side6 => exact (Kd.R_reads' HO292.out).2.1); (case side7 => exact rC (n := t293.length) (c := co18) ((x2 HO295.out BK308.out (by decide) (.slice Ao23 t301.length co23) (.slice Ao26 t304.length co26)))); (case side8 => exact (Kd.R_reads' HO295.out).2.1); rintro e w36 ⟨rfl, hb⟩; refine ⟨_, rfl, ?_⟩; replace HO289 := aM (xB (xH ((x2 HO289.out BK308.out (by decide) (.slice Ao23 t301.length co23) (.slice Ao26 t304.length co26)))) hb); replace HO292 := aM (xB (xH ((x2 HO292.out BK308.out (by decide) (.slice Ao23 t301.length co23) (.slice Ao26 t304.length co26)))) hb); replace HO295 := aM (xB (xH ((x2 HO295.out BK308.out (by decide) (.slice Ao23 t301.length co23) (.slice Ao26 t304.length co26)))) hb); replace HO300 := aM (xB (xH ((x2 HO300.out BK308.out (by decide) (.slice Ao23 t301.length co23) (.slice Ao26 t304.length co26)))) hb); replace HO303 := aM (xB (xH ((x2 HO303.out BK308.out (by decide) (.slice Ao23 t301.length co23) (.slice Ao26 t304.length co26)))) hb); replace HO306 := aM (xB (xH ((x2 HO306.out BK308.out (by decide) (.slice Ao23 t301.length co23) (.slice Ao26 t304.length co26)))) hb); replace BK297 := aM (yB (g := gb297) (o := .cells #[.slice Ao16 t290.length co16, .slice Ao18 t293.length co18] 30 (0, 0)) (by (with_reducible repeat (first | refine yN ?_ _ | refine yD ?_ | refine yA ?_ _)); refine yF ?_ NB297_308.out _; (with_reducible repeat (first | refine yN ?_ _ | refine yD ?_ | refine yA ?_ _)); refine yF ?_ NB297_308.out _; (with_reducible repeat (first | refine yN ?_ _ | refine yD ?_ | refine yA ?_ _)); exact BK297.out) hb); replace BK308 := aM (yB (g := gb308) (o := .cells #[.slice Ao23 t301.length co23, .slice Ao26 t304.length co26] 30 (0, 0)) (by (with_reducible repeat (first | refine yN ?_ _ | refine yD ?_ | refine yA ?_ _)); refine yP (cs := #[.slice Ao23 t301.length co23, .slice none 0 0]) ?_ 1 _ rfl; (with_reducible repeat (first | refine yN ?_ _ | refine yD ?_ | refine yA ?_ _)); refine yP (cs := #[.slice none 0 0, .slice none 0 0]) ?_ 0 _ rfl; (with_reducible repeat (first | refine yN ?_ _ | refine yD ?_ | refine yA ?_ _)); exact BK308.out) hb); replace HB := aM (zT (zH HB.out) hb); (try clear hb)))
    go_meet
    case rel => exact ⟨_, (true), (by first | rfl | (simp; done) | (simp [*]; done)), H', ⟨by first | omega | exact Nat.le_refl _⟩, ⟨xH (xM HO300.out (fun _ hk => ⟨hk.1.2, hk.2⟩))⟩, ⟨xH (xM HO292.out (fun _ hk => hk.2))⟩, ⟨xH (xM HO295.out (fun _ hk => ⟨hk.1.2, hk.2⟩))⟩, ⟨xH (xM HO303.out (fun _ hk => hk.2))⟩, ⟨xH (xM HO306.out (fun _ hk => ⟨hk.2, hk.1.2⟩))⟩, ⟨yH BK297.out⟩, ⟨yH BK308.out⟩, ⟨zH HB.out⟩⟩
  case rest =>
   clear HC10
   (try clear c1); (try clear c2); (try clear p2); (try clear c3); (try clear c4); (try clear c4b0); (try clear c10); (try clear c17); (try clear c24); (try clear c28); (try clear c29); (try clear c33); (try clear hcz17_0); (try clear hcz17_1); (try clear hcz25_0); (try clear hcz25_1); (try clear hcz30_0); (try clear hcz30_1); (try clear hcz31_0); (try clear hcz31_1); (try clear hcz34_0); (try clear hcz34_1); (try clear hcz35_0); (try clear hcz35_1); (try clear hfz17_0); (try clear hfz17_1); (try clear hfz25_0); (try clear hfz25_1); (try clear hfz30_0); (try clear hfz30_1); (try clear hfz31_0); (try clear hfz31_1); (try clear hfz34_0); (try clear hfz34_1); (try clear hfz35_0); (try clear hfz35_1)
   obtain ⟨kq, x44_9, rfl, HA, HJ9, p0', p1', p2', p3', p4', BK297, BK308, HB⟩ := hcut
   cases kq with
   | zero => exact absurd HA.out (fun h_ => by change none = some _ at h_; cases h_)
   | succ kj9 =>
    have H := HA.out
    clear HA
    simp only [laws_FnExactPlayDevice.j0] at H
    by_cases c37 : x44_9 = true
    ·subst c37
     have H1 : (some false) = some r := by rw [if_pos rfl] at H; exact H
     clear H
     have H := H1
     clear H1
     exact absurd (H.trans (congrArg some HR_.out)) (by decide)
    ·replace c37 := Bool.eq_false_iff.mpr c37
     subst c37
     have H1 : ((laws_toWriteS.f kj9 l1).bind fun t310 => ((laws_eqWriteS.f kj9 t298 t310).bind fun t313 => (if t313 = true then ((laws_markWriteS.f kj9 t298 1).bind fun bt314 => (if bt314.1 < 0 then (laws_FnExactPlayDevice.j1 kj9 a0 l1 t296 true t290 t293 t301 t304) else ((laws_eqDevice.f kj9 t301 t304 t290 t293).bind fun t316 => (if t316 = true then (laws_FnExactPlayDevice.j1 kj9 a0 l1 t296 (t307 != t296) t290 t293 t301 t304) else (laws_FnExactPlayDevice.j1 kj9 a0 l1 t296 true t290 t293 t301 t304))))) else (some false)))) = some r := by rw [if_neg (show ¬ (false = true) by decide)] at H; exact H
     clear H
     have H := H1
     clear H1
     replace H := Option.bind_eq_some_iff.mp H
     obtain ⟨t310, A380, H⟩ := H
     replace H : ((laws_eqWriteS.f kj9 t298 t310).bind fun t313 => (if t313 = true then ((laws_markWriteS.f kj9 t298 1).bind fun bt314 => (if bt314.1 < 0 then (laws_FnExactPlayDevice.j1 kj9 a0 l1 t296 true t290 t293 t301 t304) else ((laws_eqDevice.f kj9 t301 t304 t290 t293).bind fun t316 => (if t316 = true then (laws_FnExactPlayDevice.j1 kj9 a0 l1 t296 (t307 != t296) t290 t293 t301 t304) else (laws_FnExactPlayDevice.j1 kj9 a0 l1 t296 true t290 t293 t301 t304))))) else (some false))) = some r := H
     have A38 := aM A380
     clear A380
     replace H := Option.bind_eq_some_iff.mp H
     obtain ⟨t313, A390, H⟩ := H
     replace H : (if t313 = true then ((laws_markWriteS.f kj9 t298 1).bind fun bt314 => (if bt314.1 < 0 then (laws_FnExactPlayDevice.j1 kj9 a0 l1 t296 true t290 t293 t301 t304) else ((laws_eqDevice.f kj9 t301 t304 t290 t293).bind fun t316 => (if t316 = true then (laws_FnExactPlayDevice.j1 kj9 a0 l1 t296 (t307 != t296) t290 t293 t301 t304) else (laws_FnExactPlayDevice.j1 kj9 a0 l1 t296 true t290 t293 t301 t304))))) else (some false)) = some r := H
     have A39 := aM A390
     clear A390
     by_cases c40 : t313 = true
     ·subst c40
      have H1 : ((laws_markWriteS.f kj9 t298 1).bind fun bt314 => (if bt314.1 < 0 then (laws_FnExactPlayDevice.j1 kj9 a0 l1 t296 true t290 t293 t301 t304) else ((laws_eqDevice.f kj9 t301 t304 t290 t293).bind fun t316 => (if t316 = true then (laws_FnExactPlayDevice.j1 kj9 a0 l1 t296 (t307 != t296) t290 t293 t301 t304) else (laws_FnExactPlayDevice.j1 kj9 a0 l1 t296 true t290 t293 t301 t304))))) = some r := by rw [if_pos rfl] at H; exact H
      clear H
      have H := H1
      clear H1
      replace H := Option.bind_eq_some_iff.mp H
      obtain ⟨⟨t314, t315⟩, A410, H⟩ := H
      replace H : (if t314 < 0 then (laws_FnExactPlayDevice.j1 kj9 a0 l1 t296 true t290 t293 t301 t304) else ((laws_eqDevice.f kj9 t301 t304 t290 t293).bind fun t316 => (if t316 = true then (laws_FnExactPlayDevice.j1 kj9 a0 l1 t296 (t307 != t296) t290 t293 t301 t304) else (laws_FnExactPlayDevice.j1 kj9 a0 l1 t296 true t290 t293 t301 t304)))) = some r := H
      have A41 := aM A410
      clear A410
      have HC42 := aM H
      clear H
      go_upto_region 14 with (first | ((with_reducible refine gate_callee (f := 39) rfl ?_); refine goesL_ (some 47) rfl rfl Try.func39 (by kernel_rfl) rfl #[.slice A1 l1.length c1] rfl (by (try simp only [List.map_toArray, List.map_cons, List.map_nil]); first | done | rfl | (simp only [List.length_drop, List.length_take]; rfl)) ?_; (with_reducible refine (laws_toWriteS.calls kj9 _ _ l1 t310 _ ?side1 ?side2 A38.out).mono ?_); (case side1 => exact cK HR1.out HB.out); (case side2 => exact HC1.out); rintro e w43 ⟨v311, rfl, ho0, hb⟩; refine ⟨_, rfl, ?_⟩; replace p1' := xK p1'.out hb; replace p3' := xK p3'.out hb; have HO312 := aM (xL (Kd.R_new' (Kd.R_new' (Kd.R_new' ho0 (Kd.R_lt (xH p0'.out))) (Kd.R_lt (xH p2'.out))) (Kd.R_lt (xH p4'.out))) (zZ (zH HB.out))); replace p0' := aM (Kd.R_elder' (xH p0'.out) (Kd.R_base ho0) hb); replace p2' := aM (Kd.R_elder' (xH p2'.out) (Kd.R_base ho0) hb); replace p4' := aM (Kd.R_elder' (xH p4'.out) (Kd.R_base ho0) hb); replace BK297 := yK BK297.out hb; replace BK308 := yK BK308.out hb; replace HB := aM (zT (zH HB.out) hb); (try clear hb); (try clear ho0); obtain ⟨Ao44, co44, eo44⟩ := Kd.R_slice HO312.out; subst eo44) | ((with_reducible refine gate_callee (f := 41) rfl ?_); refine goesL_ (some 48) rfl rfl Try.func41 (by kernel_rfl) rfl #[.slice Ao20 t298.length co20, .slice Ao44 t310.length co44] rfl (by (try simp only [List.map_toArray, List.map_cons, List.map_nil]); first | done | rfl | (simp only [List.length_drop, List.length_take]; rfl)) ?_; (with_reducible refine (laws_eqWriteS.calls kj9 _ _ t298 _ _ t310 true _ ?side1 ?side2 ?side3 ?side4 A39.out).mono ?_); (case side1 => repeat (first | exact (Kd.R_reads' p0'.out).2.2 | (with_reducible refine cA ?_ _) | (with_reducible refine cN ?_ _) | (with_reducible refine cD ?_))); (case side2 => exact (Kd.R_reads' p0'.out).2.1); (case side3 => repeat (first | exact (Kd.R_reads' HO312.out).2.2 | (with_reducible refine cA ?_ _) | (with_reducible refine cN ?_ _) | (with_reducible refine cD ?_))); (case side4 => exact (Kd.R_reads' HO312.out).2.1); rintro e w45 ⟨rfl, hb⟩; refine ⟨_, rfl, ?_⟩; replace p0' := xK p0'.out hb; replace p1' := xK p1'.out hb; replace p2' := xK p2'.out hb; replace p3' := xK p3'.out hb; replace p4' := xK p4'.out hb; replace HO312 := xK HO312.out hb; replace BK297 := yK BK297.out hb; replace BK308 := yK BK308.out hb; replace HB := aM (zT (zH HB.out) hb); (try clear hb)) | ((with_reducible refine gate_callee (f := 42) rfl ?_); refine goesL_ (some 52) rfl rfl Try.func42 (by kernel_rfl) rfl #[.slice Ao20 t298.length co20, .int .i64 1] rfl (by (try simp only [List.map_toArray, List.map_cons, List.map_nil]); first | done | rfl | (simp only [List.length_drop, List.length_take]; rfl)) ?_; (with_reducible refine (laws_markWriteS.calls kj9 (fun k_ => some k_ = oB Ao20 t298.length co20) (.slice Ao20 t298.length co20) t298 1 t314 t315 w _ ?side1 ?side2 A41.out).mono ?_); (case side1 => repeat (first | (with_reducible first | exact HB.out | apply zA | apply zN | apply zD | refine zS ?_ GE297.out | refine zS ?_ GE308.out) | exact HB.out)); (case side2 => exact Kd.R_tight rfl p0'.out); rintro e w46 ⟨rfl, hy0, hb, hkp⟩; refine ⟨_, rfl, ?_⟩; replace p1' := aM (xM (ok' := fun k_ => some k_ ≠ oB Ao23 t301.length co23) (Kd.R_keptB ((Kd.R_apart' p1'.out (Kd.R_typed p0'.out) (by decide))) hkp (fun k_ hk_ hs_ => (hk_.2) hs_)) (fun k_ hk_ => hk_.1.1)); replace p2' := aM (xM (ok' := fun k_ => some k_ ≠ oB Ao20 t298.length co20 ∧ some k_ ≠ oB Ao26 t304.length co26 ∧ some k_ ≠ oB Ao44 t310.length co44) (Kd.R_keptB (p2'.out) hkp (fun k_ hk_ hs_ => (hk_.1.1) hs_)) (fun k_ hk_ => ⟨hk_.1.1.1, hk_.1.1.2, hk_.1.2⟩)); replace p3' := aM (xM (ok' := fun k_ => some k_ ≠ oB Ao16 t290.length co16) (Kd.R_keptB ((Kd.R_apart' p3'.out (Kd.R_typed p0'.out) (by decide))) hkp (fun k_ hk_ hs_ => (hk_.2) hs_)) (fun k_ hk_ => hk_.1.1)); replace p4' := aM (xM (ok' := fun k_ => some k_ ≠ oB Ao20 t298.length co20 ∧ some k_ ≠ oB Ao18 t293.length co18 ∧ some k_ ≠ oB Ao44 t310.length co44) (Kd.R_keptB (p4'.out) hkp (fun k_ hk_ hs_ => (hk_.1.1) hs_)) (fun k_ hk_ => ⟨hk_.1.1.1, hk_.1.1.2, hk_.1.2⟩)); replace BK297 := aM (blk_kept BK297.out hkp (fun hs_ => (fun e_ => (Kd.R_ne p0'.out BK297.out (by decide)) e_) hs_)); replace BK308 := aM (blk_kept BK308.out hkp (fun hs_ => (fun e_ => (Kd.R_ne p0'.out BK308.out (by decide)) e_) hs_)); replace p0' := aM (Kd.R_reok rfl hy0 (fun k_ e_ => p0'.out.1 k_ e_)); replace HO312 := aM (xM (ok' := fun k_ => some k_ ≠ oB Ao20 t298.length co20 ∧ some k_ ≠ oB Ao18 t293.length co18 ∧ some k_ ≠ oB Ao26 t304.length co26) (Kd.R_keptB (HO312.out) hkp (fun k_ hk_ hs_ => (hk_.1.1.2) hs_)) (fun k_ hk_ => ⟨hk_.1.1.1.2, hk_.1.1.2, hk_.1.2⟩)); replace HB := aM (hb); (try clear hb); (try clear hkp); (try clear hy0)))
      (try simp only [Act.put, qA, qB, qC])
      go_cut [65] (fun v65 wc => ∃ (kq : Nat) (x65_41 : Bool), v65 = .bool x65_41 ∧ Aside0 (laws_FnExactPlayDevice.j1 kq a0 l1 t296 x65_41 t290 t293 t301 t304 = some r) ∧ Aside0 (kq ≤ kj9) ∧ Aside0 (Kd.R Kd.string 9 wc w.heap.size (fun k_ => some k_ ≠ oB Ao23 t301.length co23) (.slice Ao16 t290.length co16) t290) ∧ Aside0 (Kd.R k42 42 wc w.heap.size (fun k_ => some k_ ≠ oB Ao26 t304.length co26) (.slice Ao18 t293.length co18) t293) ∧ Aside0 (Kd.R Kd.string 9 wc w.heap.size (fun k_ => some k_ ≠ oB Ao16 t290.length co16) (.slice Ao23 t301.length co23) t301) ∧ Aside0 (Kd.R k42 42 wc w.heap.size (fun k_ => some k_ ≠ oB Ao18 t293.length co18) (.slice Ao26 t304.length co26) t304) ∧ Aside0 (wc.heap[gb297]? = some (.cells #[(.slice Ao16 t290.length co16), (.slice Ao18 t293.length co18)] 30 (0, 0))) ∧ Aside0 (wc.heap[gb308]? = some (.cells #[(.slice Ao23 t301.length co23), (.slice Ao26 t304.length co26)] 30 (0, 0))) ∧ Aside0 (Below w.heap.size w wc))
      case first =>
       have H := HC42.out
       clear HC42
       by_cases c47 : t314 < 0
       ·rw [if_pos c47] at H
        have c47b0 : decide (t314 < 0) = true := decide_eq_true c47
        clear c47
        (first | rw [c47b0] | (simp only [i64_w, i32_w]; rw [c47b0]) | skip)
        have H' := aM H
        clear H
        go_wp2
        go_meet
        case rel => exact ⟨_, (true), (by first | rfl | (simp; done) | (simp [*]; done)), H', ⟨by have := HJ9.out; first | omega | exact Nat.le_refl _⟩, ⟨xH p1'.out⟩, ⟨xH (xM p2'.out (fun _ hk => hk.2.1))⟩, ⟨xH p3'.out⟩, ⟨xH (xM p4'.out (fun _ hk => hk.2.1))⟩, ⟨yH BK297.out⟩, ⟨yH BK308.out⟩, ⟨zH HB.out⟩⟩
       ·rw [if_neg c47] at H
        have c47b0 : decide (t314 < 0) = false := decide_eq_false c47
        clear c47
        (first | rw [c47b0] | (simp only [i64_w, i32_w]; rw [c47b0]) | skip)
        replace H := Option.bind_eq_some_iff.mp H
        obtain ⟨t316, A480, H⟩ := H
        replace H : (if t316 = true then (laws_FnExactPlayDevice.j1 kj9 a0 l1 t296 (t307 != t296) t290 t293 t301 t304) else (laws_FnExactPlayDevice.j1 kj9 a0 l1 t296 true t290 t293 t301 t304)) = some r := H
        have A48 := aM A480
        clear A480
        by_cases c49 : t316 = true
        ·subst c49
         have H1 : (laws_FnExactPlayDevice.j1 kj9 a0 l1 t296 (t307 != t296) t290 t293 t301 t304) = some r := by rw [if_pos rfl] at H; exact H
         clear H
         have H := H1
         clear H1
         have H' := aM H
         clear H
         have hnb50 := NB308_297.out
         have hnc50 := NB297_308.out
         have hcz51_0 : w46.cell? ⟨gb308, 0, none⟩ = some (.slice Ao23 t301.length co23) := yc BK308.out 0
         have hcz51_1 : w46.cell? ⟨gb308, 1, none⟩ = some (.slice Ao26 t304.length co26) := yc BK308.out 1
         have hfz51_0 := yZ BK308.out 0
         have hfz51_1 := yZ BK308.out 1
         have hcz52_0 : w46.cell? ⟨gb297, 0, none⟩ = some (.slice Ao16 t290.length co16) := yc BK297.out 0
         have hcz52_1 : w46.cell? ⟨gb297, 1, none⟩ = some (.slice Ao18 t293.length co18) := yc BK297.out 1
         have hfz52_0 := yZ BK297.out 0
         have hfz52_1 := yZ BK297.out 1
         go_wp2_with (first | (go_at_call 17; (with_reducible refine (laws_eqDevice.calls kj9 _ _ t301 _ _ t304 _ _ t290 _ _ t293 true _ ?side1 ?side2 ?side3 ?side4 ?side5 ?side6 ?side7 ?side8 A48.out).mono ?_); (case side1 => repeat (first | exact (Kd.R_reads' p3'.out).2.2 | (with_reducible refine cA ?_ _) | (with_reducible refine cN ?_ _) | (with_reducible refine cD ?_))); (case side2 => exact (Kd.R_reads' p3'.out).2.1); (case side3 => repeat (first | exact (Kd.R_reads' p4'.out).2.2 | (with_reducible refine cA ?_ _) | (with_reducible refine cN ?_ _) | (with_reducible refine cD ?_))); (case side4 => exact (Kd.R_reads' p4'.out).2.1); (case side5 => repeat (first | exact (Kd.R_reads' p1'.out).2.2 | (with_reducible refine cA ?_ _) | (with_reducible refine cN ?_ _) | (with_reducible refine cD ?_))); (case side6 => exact (Kd.R_reads' p1'.out).2.1); (case side7 => repeat (first | exact (Kd.R_reads' p2'.out).2.2 | (with_reducible refine cA ?_ _) | (with_reducible refine cN ?_ _) | (with_reducible refine cD ?_))); (case side8 => exact (Kd.R_reads' p2'.out).2.1); rintro e w53 ⟨rfl, hb⟩; replace p0' := xK p0'.out hb; replace p1' := xK p1'.out hb; replace p2' := xK p2'.out hb; replace p3' := xK p3'.out hb; replace p4' := xK p4'.out hb; replace HO312 := xK HO312.out hb; replace BK297 := yK BK297.out hb; replace BK308 := yK BK308.out hb; replace HB := aM (zT (zH HB.out) hb); (try clear hb)))
         go_meet
         case rel => exact ⟨_, ((t307 != t296)), (by first | rfl | (simp; done) | (simp [*]; done)), H', ⟨by have := HJ9.out; first | omega | exact Nat.le_refl _⟩, ⟨xH p1'.out⟩, ⟨xH (xM p2'.out (fun _ hk => hk.2.1))⟩, ⟨xH p3'.out⟩, ⟨xH (xM p4'.out (fun _ hk => hk.2.1))⟩, ⟨yH BK297.out⟩, ⟨yH BK308.out⟩, ⟨zH HB.out⟩⟩
        ·replace c49 := Bool.eq_false_iff.mpr c49
         subst c49
         have H1 : (laws_FnExactPlayDevice.j1 kj9 a0 l1 t296 true t290 t293 t301 t304) = some r := by rw [if_neg (show ¬ (false = true) by decide)] at H; exact H
         clear H
         have H := H1
         clear H1
         have H' := aM H
         clear H
         have hnb54 := NB308_297.out
         have hnc54 := NB297_308.out
         have hcz55_0 : w46.cell? ⟨gb308, 0, none⟩ = some (.slice Ao23 t301.length co23) := yc BK308.out 0
         have hcz55_1 : w46.cell? ⟨gb308, 1, none⟩ = some (.slice Ao26 t304.length co26) := yc BK308.out 1
         have hfz55_0 := yZ BK308.out 0
         have hfz55_1 := yZ BK308.out 1
         have hcz56_0 : w46.cell? ⟨gb297, 0, none⟩ = some (.slice Ao16 t290.length co16) := yc BK297.out 0
         have hcz56_1 : w46.cell? ⟨gb297, 1, none⟩ = some (.slice Ao18 t293.length co18) := yc BK297.out 1
         have hfz56_0 := yZ BK297.out 0
         have hfz56_1 := yZ BK297.out 1
         go_wp2_with (first | (go_at_call 17; (with_reducible refine (laws_eqDevice.calls kj9 _ _ t301 _ _ t304 _ _ t290 _ _ t293 false _ ?side1 ?side2 ?side3 ?side4 ?side5 ?side6 ?side7 ?side8 A48.out).mono ?_); (case side1 => repeat (first | exact (Kd.R_reads' p3'.out).2.2 | (with_reducible refine cA ?_ _) | (with_reducible refine cN ?_ _) | (with_reducible refine cD ?_))); (case side2 => exact (Kd.R_reads' p3'.out).2.1); (case side3 => repeat (first | exact (Kd.R_reads' p4'.out).2.2 | (with_reducible refine cA ?_ _) | (with_reducible refine cN ?_ _) | (with_reducible refine cD ?_))); (case side4 => exact (Kd.R_reads' p4'.out).2.1); (case side5 => repeat (first | exact (Kd.R_reads' p1'.out).2.2 | (with_reducible refine cA ?_ _) | (with_reducible refine cN ?_ _) | (with_reducible refine cD ?_))); (case side6 => exact (Kd.R_reads' p1'.out).2.1); (case side7 => repeat (first | exact (Kd.R_reads' p2'.out).2.2 | (with_reducible refine cA ?_ _) | (with_reducible refine cN ?_ _) | (with_reducible refine cD ?_))); (case side8 => exact (Kd.R_reads' p2'.out).2.1); rintro e w57 ⟨rfl, hb⟩; replace p0' := xK p0'.out hb; replace p1' := xK p1'.out hb; replace p2' := xK p2'.out hb; replace p3' := xK p3'.out hb; replace p4' := xK p4'.out hb; replace HO312 := xK HO312.out hb; replace BK297 := yK BK297.out hb; replace BK308 := yK BK308.out hb; replace HB := aM (zT (zH HB.out) hb); (try clear hb)))
         go_meet
         case rel => exact ⟨_, (true), (by first | rfl | (simp; done) | (simp [*]; done)), H', ⟨by have := HJ9.out; first | omega | exact Nat.le_refl _⟩, ⟨xH p1'.out⟩, ⟨xH (xM p2'.out (fun _ hk => hk.2.1))⟩, ⟨xH p3'.out⟩, ⟨xH (xM p4'.out (fun _ hk => hk.2.1))⟩, ⟨yH BK297.out⟩, ⟨yH BK308.out⟩, ⟨zH HB.out⟩⟩
      case rest =>
       clear HC42
       (try clear c1); (try clear c2); (try clear p2); (try clear c3); (try clear c4); (try clear c4b0); (try clear c5); (try clear c10); (try clear c17); (try clear c24); (try clear c28); (try clear c29); (try clear c33); (try clear c37); (try clear c38); (try clear c39); (try clear c40); (try clear c41); (try clear c42); (try clear c47); (try clear c47b0); (try clear c49); (try clear c50); (try clear c54); (try clear hcz17_0); (try clear hcz17_1); (try clear hcz25_0); (try clear hcz25_1); (try clear hcz30_0); (try clear hcz30_1); (try clear hcz31_0); (try clear hcz31_1); (try clear hcz34_0); (try clear hcz34_1); (try clear hcz35_0); (try clear hcz35_1); (try clear hcz51_0); (try clear hcz51_1); (try clear hcz52_0); (try clear hcz52_1); (try clear hcz55_0); (try clear hcz55_1); (try clear hcz56_0); (try clear hcz56_1); (try clear hfz17_0); (try clear hfz17_1); (try clear hfz25_0); (try clear hfz25_1); (try clear hfz30_0); (try clear hfz30_1); (try clear hfz31_0); (try clear hfz31_1); (try clear hfz34_0); (try clear hfz34_1); (try clear hfz35_0); (try clear hfz35_1); (try clear hfz51_0); (try clear hfz51_1); (try clear hfz52_0); (try clear hfz52_1); (try clear hfz55_0); (try clear hfz55_1); (try clear hfz56_0); (try clear hfz56_1); (try clear p2)
       obtain ⟨kq, x65_41, rfl, HA, HJ41, p1', p2', p3', p4', BK297, BK308, HB⟩ := hcut
       cases kq with
       | zero => exact absurd HA.out (fun h_ => by change none = some _ at h_; cases h_)
       | succ kj41 =>
        have H := HA.out
        clear HA
        simp only [laws_FnExactPlayDevice.j1] at H
        by_cases c58 : x65_41 = true
        ·subst c58
         have H1 : (some false) = some r := by rw [if_pos rfl] at H; exact H
         clear H
         have H := H1
         clear H1
         exact absurd (H.trans (congrArg some HR_.out)) (by decide)
        ·replace c58 := Bool.eq_false_iff.mpr c58
         subst c58
         have H1 : ((laws_markDevice.f kj41 t301 t304 1).bind fun bt317 => ((laws_heldDevice.f kj41 bt317.2.1 bt317.2.2 1).bind fun t320 => (if t320 < 0 then (some false) else (if t320 = bt317.1 then ((laws_toWriteS.f kj41 l1).bind fun t321 => ((impl_PlayDevice.f kj41 a0 t321).bind fun bt324 => ((laws_eqDevice.f kj41 bt324.1 bt324.2.1 t290 t293).bind fun t332 => (if t332 = true then (laws_FnExactPlayDevice.j2 kj41 bt317.1 (bt324.2.2 != t296) bt317.2.1 bt317.2.2) else (laws_FnExactPlayDevice.j2 kj41 bt317.1 true bt317.2.1 bt317.2.2))))) else (some false))))) = some r := by rw [if_neg (show ¬ (false = true) by decide)] at H; exact H
         clear H
         have H := H1
         clear H1
         replace H := Option.bind_eq_some_iff.mp H
         obtain ⟨⟨t317, t318, t319⟩, A590, H⟩ := H
         replace H : ((laws_heldDevice.f kj41 t318 t319 1).bind fun t320 => (if t320 < 0 then (some false) else (if t320 = t317 then ((laws_toWriteS.f kj41 l1).bind fun t321 => ((impl_PlayDevice.f kj41 a0 t321).bind fun bt324 => ((laws_eqDevice.f kj41 bt324.1 bt324.2.1 t290 t293).bind fun t332 => (if t332 = true then (laws_FnExactPlayDevice.j2 kj41 t317 (bt324.2.2 != t296) t318 t319) else (laws_FnExactPlayDevice.j2 kj41 t317 true t318 t319))))) else (some false)))) = some r := H
         have A59 := aM A590
         clear A590
         replace H := Option.bind_eq_some_iff.mp H
         obtain ⟨t320, A600, H⟩ := H
         replace H : (if t320 < 0 then (some false) else (if t320 = t317 then ((laws_toWriteS.f kj41 l1).bind fun t321 => ((impl_PlayDevice.f kj41 a0 t321).bind fun bt324 => ((laws_eqDevice.f kj41 bt324.1 bt324.2.1 t290 t293).bind fun t332 => (if t332 = true then (laws_FnExactPlayDevice.j2 kj41 t317 (bt324.2.2 != t296) t318 t319) else (laws_FnExactPlayDevice.j2 kj41 t317 true t318 t319))))) else (some false))) = some r := H
         have A60 := aM A600
         clear A600
         by_cases c61 : t320 < 0
         ·rw [if_pos c61] at H
          have c61b0 : decide (t320 < 0) = true := decide_eq_true c61
          clear c61
          obtain rfl := Option.some.inj H
          have hnb62 := NB308_297.out
          have hnc62 := NB297_308.out
          have hcz63_0 : wc.cell? ⟨gb308, 0, none⟩ = some (.slice Ao23 t301.length co23) := yc BK308.out 0
          have hcz63_1 : wc.cell? ⟨gb308, 1, none⟩ = some (.slice Ao26 t304.length co26) := yc BK308.out 1
          have hfz63_0 := yZ BK308.out 0
          have hfz63_1 := yZ BK308.out 1
          go_wp2_with (first | ((with_reducible refine gate_callee (f := 26) rfl ?_); refine goesL_ (some 68) rfl rfl Try.func26 (by kernel_rfl) rfl #[.agg #[.slice Ao23 t301.length co23, .slice Ao26 t304.length co26], .int .i64 1] rfl (by (try simp only [List.map_toArray, List.map_cons, List.map_nil]); first | done | rfl | (simp only [List.length_drop, List.length_take]; rfl)) ?_; (with_reducible refine (laws_markDevice.calls kj41 (fun k_ => some k_ = oB Ao23 t301.length co23) (.slice Ao23 t301.length co23) t301 (fun k_ => some k_ = oB Ao26 t304.length co26) (.slice Ao26 t304.length co26) t304 1 t317 t318 t319 w _ ?side1 ?side2 ?side3 A59.out).mono ?_); (case side1 => repeat (first | (with_reducible first | exact HB.out | apply zA | apply zN | apply zD | refine zS ?_ GE297.out | refine zS ?_ GE308.out) | exact HB.out)); (case side2 => exact Kd.R_tight rfl p3'.out); (case side3 => exact Kd.R_tight rfl p4'.out); rintro e w64 ⟨rfl, hy0, hy1, hb, hkp⟩; refine ⟨_, rfl, ?_⟩; replace p1' := aM (xM (ok' := fun k_ => some k_ ≠ oB Ao23 t301.length co23) (Kd.R_keptB ((Kd.R_apart' p1'.out (Kd.R_typed p4'.out) (by decide))) hkp (fun k_ hk_ hs_ => Or.elim hs_ (fun e_ => (hk_.1) e_) (fun e_ => (hk_.2) e_))) (fun k_ hk_ => hk_.1.1)); replace p2' := aM (xM (ok' := fun k_ => some k_ ≠ oB Ao26 t304.length co26) (Kd.R_keptB ((Kd.R_apart' p2'.out (Kd.R_typed p3'.out) (by decide))) hkp (fun k_ hk_ hs_ => Or.elim hs_ (fun e_ => (hk_.2) e_) (fun e_ => (hk_.1) e_))) (fun k_ hk_ => hk_.1.1)); replace BK297 := aM (blk_kept BK297.out hkp (fun hs_ => Or.elim hs_ (fun e_ => (fun e_ => (Kd.R_ne p3'.out BK297.out (by decide)) e_) e_) (fun e_ => (fun e_ => (Kd.R_ne p4'.out BK297.out (by decide)) e_) e_))); replace BK308 := aM (blk_kept BK308.out hkp (fun hs_ => Or.elim hs_ (fun e_ => (fun e_ => (Kd.R_ne p3'.out BK308.out (by decide)) e_) e_) (fun e_ => (fun e_ => (Kd.R_ne p4'.out BK308.out (by decide)) e_) e_))); replace p3' := aM (Kd.R_reok rfl hy0 (fun k_ e_ => p3'.out.1 k_ e_)); replace p4' := aM (Kd.R_reok rfl hy1 (fun k_ e_ => p4'.out.1 k_ e_)); replace HB := aM (hb); (try clear hb); (try clear hkp); (try clear hy0); (try clear hy1); have hcz65_0 : w64.cell? ⟨gb308, 0, none⟩ = some (.slice Ao23 t301.length co23) := yc BK308.out 0; have hcz65_1 : w64.cell? ⟨gb308, 1, none⟩ = some (.slice Ao26 t304.length co26) := yc BK308.out 1; have hfz65_0 := yZ BK308.out 0; have hfz65_1 := yZ BK308.out 1) | ((with_reducible refine gate_callee (f := 27) rfl ?_); refine goesL_ (some 71) rfl rfl Try.func27 (by kernel_rfl) rfl #[.agg #[.slice Ao23 t318.length co23, .slice Ao26 t319.length co26], .int .i64 1] rfl (by (try simp only [List.map_toArray, List.map_cons, List.map_nil]); first | done | (rw [show t318.length = t301.length from (Kd.R_reads' p3'.out).1.symm, show t319.length = t304.length from (Kd.R_reads' p4'.out).1.symm] <;> rfl) | rfl | (simp only [List.length_drop, List.length_take]; rfl)) ?_; (with_reducible refine (laws_heldDevice.calls kj41 _ _ t318 _ _ t319 1 t320 _ ?side1 ?side2 ?side3 ?side4 A60.out).mono ?_); (case side1 => repeat (first | exact (Kd.R_reads' p3'.out).2.2 | (with_reducible refine cA ?_ _) | (with_reducible refine cN ?_ _) | (with_reducible refine cD ?_))); (case side2 => rw [show t318.length = t301.length from (Kd.R_reads' p3'.out).1.symm]; exact (Kd.R_reads' p3'.out).2.1); (case side3 => repeat (first | exact (Kd.R_reads' p4'.out).2.2 | (with_reducible refine cA ?_ _) | (with_reducible refine cN ?_ _) | (with_reducible refine cD ?_))); (case side4 => rw [show t319.length = t304.length from (Kd.R_reads' p4'.out).1.symm]; exact (Kd.R_reads' p4'.out).2.1); rintro e w66 ⟨rfl, hb⟩; refine ⟨_, rfl, ?_⟩; replace p1' := xK p1'.out hb; replace p2' := xK p2'.out hb; replace p3' := xK p3'.out hb; replace p4' := xK p4'.out hb; replace BK297 := yK BK297.out hb; replace BK308 := yK BK308.out hb; replace HB := aM (zT (zH HB.out) hb); (try clear hb)))
          go_ret
          exact ⟨by first | rfl | (simp [errW_none, errW_some] <;> rfl) | (simp [*, errW_none, errW_some] <;> rfl), zH HB.out⟩
         ·rw [if_neg c61] at H
          have c61b0 : decide (t320 < 0) = false := decide_eq_false c61
          clear c61
          by_cases c67 : t320 = t317
          ·rw [if_pos c67] at H
           have c67b0 : (t320 == t317) = true := beq_iff_eq.mpr c67
           have c67b1 : (t320 != t317) = false := bne_eq_false_iff_eq.mpr c67
           clear c67
           replace H := Option.bind_eq_some_iff.mp H
           obtain ⟨t321, A680, H⟩ := H
           replace H : ((impl_PlayDevice.f kj41 a0 t321).bind fun bt324 => ((laws_eqDevice.f kj41 bt324.1 bt324.2.1 t290 t293).bind fun t332 => (if t332 = true then (laws_FnExactPlayDevice.j2 kj41 t317 (bt324.2.2 != t296) t318 t319) else (laws_FnExactPlayDevice.j2 kj41 t317 true t318 t319)))) = some r := H
           have A68 := aM A680
           clear A680
           replace H := Option.bind_eq_some_iff.mp H
           obtain ⟨⟨t324, t327, t330⟩, A690, H⟩ := H
           replace H : ((laws_eqDevice.f kj41 t324 t327 t290 t293).bind fun t332 => (if t332 = true then (laws_FnExactPlayDevice.j2 kj41 t317 (t330 != t296) t318 t319) else (laws_FnExactPlayDevice.j2 kj41 t317 true t318 t319))) = some r := H
           have A69 := aM A690
           clear A690
           have HC70 := aM H
           clear H
           have hnb71 := NB308_297.out
           have hnc71 := NB297_308.out
           have hcz72_0 : wc.cell? ⟨gb308, 0, none⟩ = some (.slice Ao23 t301.length co23) := yc BK308.out 0
           have hcz72_1 : wc.cell? ⟨gb308, 1, none⟩ = some (.slice Ao26 t304.length co26) := yc BK308.out 1
           have hfz72_0 := yZ BK308.out 0
           have hfz72_1 := yZ BK308.out 1
           go_upto_region 25 with (first | ((with_reducible refine gate_callee (f := 26) rfl ?_); refine goesL_ (some 68) rfl rfl Try.func26 (by kernel_rfl) rfl #[.agg #[.slice Ao23 t301.length co23, .slice Ao26 t304.length co26], .int .i64 1] rfl (by (try simp only [List.map_toArray, List.map_cons, List.map_nil]); first | done | rfl | (simp only [List.length_drop, List.length_take]; rfl)) ?_; (with_reducible refine (laws_markDevice.calls kj41 (fun k_ => some k_ = oB Ao23 t301.length co23) (.slice Ao23 t301.length co23) t301 (fun k_ => some k_ = oB Ao26 t304.length co26) (.slice Ao26 t304.length co26) t304 1 t317 t318 t319 w _ ?side1 ?side2 ?side3 A59.out).mono ?_); (case side1 => repeat (first | (with_reducible first | exact HB.out | apply zA | apply zN | apply zD | refine zS ?_ GE297.out | refine zS ?_ GE308.out) | exact HB.out)); (case side2 => exact Kd.R_tight rfl p3'.out); (case side3 => exact Kd.R_tight rfl p4'.out); rintro e w73 ⟨rfl, hy0, hy1, hb, hkp⟩; refine ⟨_, rfl, ?_⟩; replace p1' := aM (xM (ok' := fun k_ => some k_ ≠ oB Ao23 t301.length co23) (Kd.R_keptB ((Kd.R_apart' p1'.out (Kd.R_typed p4'.out) (by decide))) hkp (fun k_ hk_ hs_ => Or.elim hs_ (fun e_ => (hk_.1) e_) (fun e_ => (hk_.2) e_))) (fun k_ hk_ => hk_.1.1)); replace p2' := aM (xM (ok' := fun k_ => some k_ ≠ oB Ao26 t304.length co26) (Kd.R_keptB ((Kd.R_apart' p2'.out (Kd.R_typed p3'.out) (by decide))) hkp (fun k_ hk_ hs_ => Or.elim hs_ (fun e_ => (hk_.2) e_) (fun e_ => (hk_.1) e_))) (fun k_ hk_ => hk_.1.1)); replace BK297 := aM (blk_kept BK297.out hkp (fun hs_ => Or.elim hs_ (fun e_ => (fun e_ => (Kd.R_ne p3'.out BK297.out (by decide)) e_) e_) (fun e_ => (fun e_ => (Kd.R_ne p4'.out BK297.out (by decide)) e_) e_))); replace BK308 := aM (blk_kept BK308.out hkp (fun hs_ => Or.elim hs_ (fun e_ => (fun e_ => (Kd.R_ne p3'.out BK308.out (by decide)) e_) e_) (fun e_ => (fun e_ => (Kd.R_ne p4'.out BK308.out (by decide)) e_) e_))); replace p3' := aM (Kd.R_reok rfl hy0 (fun k_ e_ => p3'.out.1 k_ e_)); replace p4' := aM (Kd.R_reok rfl hy1 (fun k_ e_ => p4'.out.1 k_ e_)); replace HB := aM (hb); (try clear hb); (try clear hkp); (try clear hy0); (try clear hy1); have hcz74_0 : w73.cell? ⟨gb308, 0, none⟩ = some (.slice Ao23 t301.length co23) := yc BK308.out 0; have hcz74_1 : w73.cell? ⟨gb308, 1, none⟩ = some (.slice Ao26 t304.length co26) := yc BK308.out 1; have hfz74_0 := yZ BK308.out 0; have hfz74_1 := yZ BK308.out 1) | ((with_reducible refine gate_callee (f := 27) rfl ?_); refine goesL_ (some 71) rfl rfl Try.func27 (by kernel_rfl) rfl #[.agg #[.slice Ao23 t318.length co23, .slice Ao26 t319.length co26], .int .i64 1] rfl (by (try simp only [List.map_toArray, List.map_cons, List.map_nil]); first | done | (rw [show t318.length = t301.length from (Kd.R_reads' p3'.out).1.symm, show t319.length = t304.length from (Kd.R_reads' p4'.out).1.symm] <;> rfl) | rfl | (simp only [List.length_drop, List.length_take]; rfl)) ?_; (with_reducible refine (laws_heldDevice.calls kj41 _ _ t318 _ _ t319 1 t320 _ ?side1 ?side2 ?side3 ?side4 A60.out).mono ?_); (case side1 => repeat (first | exact (Kd.R_reads' p3'.out).2.2 | (with_reducible refine cA ?_ _) | (with_reducible refine cN ?_ _) | (with_reducible refine cD ?_))); (case side2 => rw [show t318.length = t301.length from (Kd.R_reads' p3'.out).1.symm]; exact (Kd.R_reads' p3'.out).2.1); (case side3 => repeat (first | exact (Kd.R_reads' p4'.out).2.2 | (with_reducible refine cA ?_ _) | (with_reducible refine cN ?_ _) | (with_reducible refine cD ?_))); (case side4 => rw [show t319.length = t304.length from (Kd.R_reads' p4'.out).1.symm]; exact (Kd.R_reads' p4'.out).2.1); rintro e w75 ⟨rfl, hb⟩; refine ⟨_, rfl, ?_⟩; replace p1' := xK p1'.out hb; replace p2' := xK p2'.out hb; replace p3' := xK p3'.out hb; replace p4' := xK p4'.out hb; replace BK297 := yK BK297.out hb; replace BK308 := yK BK308.out hb; replace HB := aM (zT (zH HB.out) hb); (try clear hb)) | ((with_reducible refine gate_callee (f := 39) rfl ?_); refine goesL_ (some 80) rfl rfl Try.func39 (by kernel_rfl) rfl #[.slice A1 l1.length c1] rfl (by (try simp only [List.map_toArray, List.map_cons, List.map_nil]); first | done | rfl | (simp only [List.length_drop, List.length_take]; rfl)) ?_; (with_reducible refine (laws_toWriteS.calls kj41 _ _ l1 t321 _ ?side1 ?side2 A68.out).mono ?_); (case side1 => exact cK HR1.out HB.out); (case side2 => exact HC1.out); rintro e w76 ⟨v322, rfl, ho0, hb⟩; refine ⟨_, rfl, ?_⟩; replace p1' := xK p1'.out hb; replace p3' := xK p3'.out hb; have HO323 := aM (xL (Kd.R_new' (Kd.R_new' ho0 (Kd.R_lt (xH p2'.out))) (Kd.R_lt (xH p4'.out))) (zZ (zH HB.out))); replace p2' := aM (Kd.R_elder' (xH p2'.out) (Kd.R_base ho0) hb); replace p4' := aM (Kd.R_elder' (xH p4'.out) (Kd.R_base ho0) hb); replace BK297 := yK BK297.out hb; replace BK308 := yK BK308.out hb; replace HB := aM (zT (zH HB.out) hb); (try clear hb); (try clear ho0); obtain ⟨Ao77, co77, eo77⟩ := Kd.R_slice HO323.out; subst eo77) | ((with_reducible refine gate_callee (f := 40) rfl ?_); refine goesL_ (some 81) rfl rfl Try.func40 (by kernel_rfl) rfl #[.int .i64 a0, .slice Ao77 t321.length co77] rfl (by (try simp only [List.map_toArray, List.map_cons, List.map_nil]); first | done | rfl | (simp only [List.length_drop, List.length_take]; rfl)) ?_; (with_reducible refine (impl_PlayDevice.calls kj41 a0 _ _ t321 t324 t327 t330 _ ?side1 ?side2 A69.out).mono ?_); (case side1 => repeat (first | exact (Kd.R_reads' HO323.out).2.2 | (with_reducible refine cA ?_ _) | (with_reducible refine cN ?_ _) | (with_reducible refine cD ?_))); (case side2 => exact (Kd.R_reads' HO323.out).2.1); rintro e w78 ⟨v325, v328, rfl, ho0, ho1, hb⟩; refine ⟨_, rfl, ?_⟩; have HO326 := aM (xL (Kd.R_new' (Kd.R_new' ho0 (Kd.R_lt (xH p1'.out))) (Kd.R_lt (xH p3'.out))) (zZ (zH HB.out))); replace p1' := aM (Kd.R_elder' (xH p1'.out) (Kd.R_base ho0) hb); replace p3' := aM (Kd.R_elder' (xH p3'.out) (Kd.R_base ho0) hb); have HO329 := aM (xL (Kd.R_new' (Kd.R_new' (Kd.R_new' ho1 (Kd.R_lt (xH p2'.out))) (Kd.R_lt (xH p4'.out))) (Kd.R_lt (xH HO323.out))) (zZ (zH HB.out))); replace p2' := aM (Kd.R_elder' (xH p2'.out) (Kd.R_base ho1) hb); replace p4' := aM (Kd.R_elder' (xH p4'.out) (Kd.R_base ho1) hb); replace HO323 := aM (Kd.R_elder' (xH HO323.out) (Kd.R_base ho1) hb); replace BK297 := yK BK297.out hb; replace BK308 := yK BK308.out hb; replace HB := aM (zT (zH HB.out) hb); (try clear hb); (try clear ho0); (try clear ho1)) | ((with_reducible refine gate_dst (N := 14) rfl ?_); refine box_event ?hg (N := 14) ?hd (cs := #[.slice none 0 0, .slice none 0 0]) (t := 30) ?hr ?_; (case hd => rfl); (case hg => rfl); (case hr => first | (go_simp; done) | (go_simp; rfl)); intro gb331 hg w79 hbox hb; replace p1' := xK p1'.out hb; replace p2' := xK p2'.out hb; replace p3' := xK p3'.out hb; replace p4' := xK p4'.out hb; replace HO323 := xK HO323.out hb; replace HO326 := xK HO326.out hb; replace HO329 := xK HO329.out hb; have BK331 := aM (hbox); have GW331 := aM ((by rw [hg]; exact (zZ (zH HB.out)) : w.heap.size ≤ gb331)); have GE331 := aM ((by rw [hg]; exact (zZ (zH HB.out)) : w.heap.size ≤ gb331)); replace HB := aM (zT (zH HB.out) hb); have NB297_331 := nL BK297.out hg; have NB331_297 := nR BK297.out hg; replace BK297 := yK BK297.out hb; have NB308_331 := nL BK308.out hg; have NB331_308 := nR BK308.out hg; replace BK308 := yK BK308.out hb; clear hb hbox hg; obtain ⟨Ao80, co80, eo80⟩ := Kd.R_slice HO326.out; subst eo80; have hnb81 := NB331_297.out; have hnc81 := NB297_331.out; have hnb82 := NB331_308.out; have hnc82 := NB308_331.out; have hcz83_0 : w79.cell? ⟨gb331, 0, none⟩ = some (.slice none 0 0) := yc BK331.out 0; have hcz83_1 : w79.cell? ⟨gb331, 1, none⟩ = some (.slice none 0 0) := yc BK331.out 1; have hfz83_0 := yZ BK331.out 0; have hfz83_1 := yZ BK331.out 1; obtain ⟨Ao84, co84, eo84⟩ := Kd.R_slice HO329.out; subst eo84))
           (try simp only [Act.put, qA, qB, qC])
           go_cut [92] (fun v92 wc => ∃ (kq : Nat) (x92_69 : Bool), v92 = .bool x92_69 ∧ Aside0 (laws_FnExactPlayDevice.j2 kq t317 x92_69 t318 t319 = some r) ∧ Aside0 (kq ≤ kj41) ∧ Aside0 (Kd.R Kd.string 9 wc w.heap.size (fun k_ => some k_ ≠ oB Ao23 t301.length co23 ∧ some k_ ≠ oB Ao80 t324.length co80) (.slice Ao16 t290.length co16) t290) ∧ Aside0 (Kd.R k42 42 wc w.heap.size (fun k_ => some k_ ≠ oB Ao26 t304.length co26 ∧ some k_ ≠ oB Ao84 t327.length co84) (.slice Ao18 t293.length co18) t293) ∧ Aside0 (Kd.R Kd.string 9 wc w.heap.size (fun k_ => some k_ ≠ oB Ao16 t290.length co16 ∧ some k_ ≠ oB Ao80 t324.length co80) (.slice Ao23 t301.length co23) t318) ∧ Aside0 (Kd.R k42 42 wc w.heap.size (fun k_ => some k_ ≠ oB Ao18 t293.length co18 ∧ some k_ ≠ oB Ao84 t327.length co84) (.slice Ao26 t304.length co26) t319) ∧ Aside0 (Kd.R Kd.string 9 wc w.heap.size (fun k_ => some k_ ≠ oB Ao16 t290.length co16 ∧ some k_ ≠ oB Ao23 t301.length co23) (.slice Ao80 t324.length co80) t324) ∧ Aside0 (Kd.R k42 42 wc w.heap.size (fun k_ => some k_ ≠ oB Ao18 t293.length co18 ∧ some k_ ≠ oB Ao26 t304.length co26) (.slice Ao84 t327.length co84) t327) ∧ Aside0 (wc.heap[gb297]? = some (.cells #[(.slice Ao16 t290.length co16), (.slice Ao18 t293.length co18)] 30 (0, 0))) ∧ Aside0 (wc.heap[gb308]? = some (.cells #[(.slice Ao23 t301.length co23), (.slice Ao26 t304.length co26)] 30 (0, 0))) ∧ Aside0 (wc.heap[gb331]? = some (.cells #[(.slice Ao80 t324.length co80), (.slice Ao84 t327.length co84)] 30 (0, 0))) ∧ Aside0 (Below w.heap.size w wc))
           case first =>
            have H := HC70.out
            clear HC70
            replace H := Option.bind_eq_some_iff.mp H
            obtain ⟨t332, A850, H⟩ := H
            replace H : (if t332 = true then (laws_FnExactPlayDevice.j2 kj41 t317 (t330 != t296) t318 t319) else (laws_FnExactPlayDevice.j2 kj41 t317 true t318 t319)) = some r := H
            have A85 := aM A850
            clear A850
            by_cases c86 : t332 = true
            ·subst c86
             have H1 : (laws_FnExactPlayDevice.j2 kj41 t317 (t330 != t296) t318 t319) = some r := by rw [if_pos rfl] at H; exact H
             clear H
             have H := H1
             clear H1
             have H' := aM H
             clear H
             have hnb87 := NB331_297.out
             have hnc87 := NB297_331.out
             have hnb88 := NB331_308.out
             have hnc88 := NB308_331.out
             have hcz89_0 : w79.cell? ⟨gb331, 0, none⟩ = some (.slice none 0 0) := yc BK331.out 0
             have hcz89_1 : w79.cell? ⟨gb331, 1, none⟩ = some (.slice none 0 0) := yc BK331.out 1
             have hfz89_0 := yZ BK331.out 0
             have hfz89_1 := yZ BK331.out 1
             have hnb90 := NB297_308.out
             have hnc90 := NB308_297.out
             have hcz91_0 : w79.cell? ⟨gb297, 0, none⟩ = some (.slice Ao16 t290.length co16) := yc BK297.out 0
             have hcz91_1 : w79.cell? ⟨gb297, 1, none⟩ = some (.slice Ao18 t293.length co18) := yc BK297.out 1
             have hfz91_0 := yZ BK297.out 0
             have hfz91_1 := yZ BK297.out 1
             go_wp2_with (first | ((with_reducible refine gate_callee (f := 17) rfl ?_); refine goesL_ (some 86) rfl rfl Try.func17 (by kernel_rfl) rfl #[.agg #[.slice Ao80 t324.length co80, .slice Ao84 t327.length co84], .agg #[.slice Ao16 t290.length co16, .slice Ao18 t293.length co18]] rfl (by (try simp only [List.map_toArray, List.map_cons, List.map_nil]); first | done | rfl | (simp only [List.length_drop, List.length_take]; rfl)) ?_; (with_reducible refine (laws_eqDevice.calls kj41 _ _ t324 _ _ t327 _ _ t290 _ _ t293 true _ ?side1 ?side2 ?side3 ?side4 ?side5 ?side6 ?side7 ?side8 A85.out).mono ?_); (case side1 => exact rC (n := t324.length) (c := co80) ((x2 HO326.out BK331.out (by decide) (.slice Ao80 t324.length co80) (.slice Ao84 t327.length co84)))); (case side2 => exact (Kd.R_reads' HO326.out).2.1); (case side3 => exact rC (n := t327.length) (c := co84) ((x2 HO329.out BK331.out (by decide) (.slice Ao80 t324.length co80) (.slice Ao84 t327.length co84)))); (case side4 => exact (Kd.R_reads' HO329.out).2.1); (case side5 => exact rC (n := t290.length) (c := co16) ((x2 p1'.out BK331.out (by decide) (.slice Ao80 t324.length co80) (.slice Ao84 t327.length co84)))); (case side6 => exact (Kd.R_reads' p1'.out).2.1); (case side7 => exact rC (n := t293.length) (c := co18) ((x2 p2'.out BK331.out (by decide) (.slice Ao80 t324.length co80) (.slice Ao84 t327.length co84)))); (case side8 => exact (Kd.R_reads' p2'.out).2.1); rintro e w92 ⟨rfl, hb⟩; refine ⟨_, rfl, ?_⟩; replace p1' := aM (xB (xH ((x2 p1'.out BK331.out (by decide) (.slice Ao80 t324.length co80) (.slice Ao84 t327.length co84)))) hb); replace p2' := aM (xB (xH ((x2 p2'.out BK331.out (by decide) (.slice Ao80 t324.length co80) (.slice Ao84 t327.length co84)))) hb); replace p3' := aM (xB (xH ((x2 p3'.out BK331.out (by decide) (.slice Ao80 t324.length co80) (.slice Ao84 t327.length co84)))) hb); replace p4' := aM (xB (xH ((x2 p4'.out BK331.out (by decide) (.slice Ao80 t324.length co80) (.slice Ao84 t327.length co84)))) hb); replace HO323 := aM (xB (xH ((x2 HO323.out BK331.out (by decide) (.slice Ao80 t324.length co80) (.slice Ao84 t327.length co84)))) hb); replace HO326 := aM (xB (xH ((x2 HO326.out BK331.out (by decide) (.slice Ao80 t324.length co80) (.slice Ao84 t327.length co84)))) hb); replace HO329 := aM (xB (xH ((x2 HO329.out BK331.out (by decide) (.slice Ao80 t324.length co80) (.slice Ao84 t327.length co84)))) hb); replace BK297 := aM (yB (g := gb297) (o := .cells #[.slice Ao16 t290.length co16, .slice Ao18 t293.length co18] 30 (0, 0)) (by (with_reducible repeat (first | refine yN ?_ _ | refine yD ?_ | refine yA ?_ _)); refine yF ?_ NB297_331.out _; (with_reducible repeat (first | refine yN ?_ _ | refine yD ?_ | refine yA ?_ _)); refine yF ?_ NB297_331.out _; (with_reducible repeat (first | refine yN ?_ _ | refine yD ?_ | refine yA ?_ _)); exact BK297.out) hb); replace BK308 := aM (yB (g := gb308) (o := .cells #[.slice Ao23 t301.length co23, .slice Ao26 t304.length co26] 30 (0, 0)) (by (with_reducible repeat (first | refine yN ?_ _ | refine yD ?_ | refine yA ?_ _)); refine yF ?_ NB308_331.out _; (with_reducible repeat (first | refine yN ?_ _ | refine yD ?_ | refine yA ?_ _)); refine yF ?_ NB308_331.out _; (with_reducible repeat (first | refine yN ?_ _ | refine yD ?_ | refine yA ?_ _)); exact BK308.out) hb); replace BK331 := aM (yB (g := gb331) (o := .cells #[.slice Ao80 t324.length co80, .slice Ao84 t327.length co84] 30 (0, 0)) (by (with_reducible repeat (first | refine yN ?_ _ | refine yD ?_ | refine yA ?_ _)); refine yP (cs := #[.slice Ao80 t324.length co80, .slice none 0 0]) ?_ 1 _ rfl; (with_reducible repeat (first | refine yN ?_ _ | refine yD ?_ | refine yA ?_ _)); refine yP (cs := #[.slice none 0 0, .slice none 0 0]) ?_ 0 _ rfl; (with_reducible repeat (first | refine yN ?_ _ | refine yD ?_ | refine yA ?_ _)); exact BK331.out) hb); replace HB := aM (zT (zH HB.out) hb); (try clear hb)))
             go_meet
             case rel => exact ⟨_, ((t330 != t296)), (by first | rfl | (simp; done) | (simp [*]; done)), H', ⟨by have := HJ9.out; have := HJ41.out; first | omega | exact Nat.le_refl _⟩, ⟨xH p1'.out⟩, ⟨xH (xM p2'.out (fun _ hk => ⟨hk.1.1, hk.2⟩))⟩, ⟨xH p3'.out⟩, ⟨xH (xM p4'.out (fun _ hk => ⟨hk.1.1, hk.2⟩))⟩, ⟨xH (xM HO326.out (fun _ hk => ⟨hk.1.2, hk.2⟩))⟩, ⟨xH (xM HO329.out (fun _ hk => ⟨hk.1.1.2, hk.1.2⟩))⟩, ⟨yH BK297.out⟩, ⟨yH BK308.out⟩, ⟨yH BK331.out⟩, ⟨zH HB.out⟩⟩
            ·replace c86 := Bool.eq_false_iff.mpr c86
             subst c86
             have H1 : (laws_FnExactPlayDevice.j2 kj41 t317 true t318 t319) = some r := by rw [if_neg (show ¬ (false = true) by decide)] at H; exact H
             clear H
             have H := H1
             clear H1
             have H' := aM H
             clear H
             have hnb93 := NB331_297.out
             have hnc93 := NB297_331.out
             have hnb94 := NB331_308.out
             have hnc94 := NB308_331.out
             have hcz95_0 : w79.cell? ⟨gb331, 0, none⟩ = some (.slice none 0 0) := yc BK331.out 0
             have hcz95_1 : w79.cell? ⟨gb331, 1, none⟩ = some (.slice none 0 0) := yc BK331.out 1
             have hfz95_0 := yZ BK331.out 0
             have hfz95_1 := yZ BK331.out 1
             have hnb96 := NB297_308.out
             have hnc96 := NB308_297.out
             have hcz97_0 : w79.cell? ⟨gb297, 0, none⟩ = some (.slice Ao16 t290.length co16) := yc BK297.out 0
             have hcz97_1 : w79.cell? ⟨gb297, 1, none⟩ = some (.slice Ao18 t293.length co18) := yc BK297.out 1
             have hfz97_0 := yZ BK297.out 0
             have hfz97_1 := yZ BK297.out 1
             go_wp2_with (first | ((with_reducible refine gate_callee (f := 17) rfl ?_); refine goesL_ (some 86) rfl rfl Try.func17 (by kernel_rfl) rfl #[.agg #[.slice Ao80 t324.length co80, .slice Ao84 t327.length co84], .agg #[.slice Ao16 t290.length co16, .slice Ao18 t293.length co18]] rfl (by (try simp only [List.map_toArray, List.map_cons, List.map_nil]); first | done | rfl | (simp only [List.length_drop, List.length_take]; rfl)) ?_; (with_reducible refine (laws_eqDevice.calls kj41 _ _ t324 _ _ t327 _ _ t290 _ _ t293 false _ ?side1 ?side2 ?side3 ?side4 ?side5 ?side6 ?side7 ?side8 A85.out).mono ?_); (case side1 => exact rC (n := t324.length) (c := co80) ((x2 HO326.out BK331.out (by decide) (.slice Ao80 t324.length co80) (.slice Ao84 t327.length co84)))); (case side2 => exact (Kd.R_reads' HO326.out).2.1); (case side3 => exact rC (n := t327.length) (c := co84) ((x2 HO329.out BK331.out (by decide) (.slice Ao80 t324.length co80) (.slice Ao84 t327.length co84)))); (case side4 => exact (Kd.R_reads' HO329.out).2.1); (case side5 => exact rC (n := t290.length) (c := co16) ((x2 p1'.out BK331.out (by decide) (.slice Ao80 t324.length co80) (.slice Ao84 t327.length co84)))); (case side6 => exact (Kd.R_reads' p1'.out).2.1); (case side7 => exact rC (n := t293.length) (c := co18) ((x2 p2'.out BK331.out (by decide) (.slice Ao80 t324.length co80) (.slice Ao84 t327.length co84)))); (case side8 => exact (Kd.R_reads' p2'.out).2.1); rintro e w98 ⟨rfl, hb⟩; refine ⟨_, rfl, ?_⟩; replace p1' := aM (xB (xH ((x2 p1'.out BK331.out (by decide) (.slice Ao80 t324.length co80) (.slice Ao84 t327.length co84)))) hb); replace p2' := aM (xB (xH ((x2 p2'.out BK331.out (by decide) (.slice Ao80 t324.length co80) (.slice Ao84 t327.length co84)))) hb); replace p3' := aM (xB (xH ((x2 p3'.out BK331.out (by decide) (.slice Ao80 t324.length co80) (.slice Ao84 t327.length co84)))) hb); replace p4' := aM (xB (xH ((x2 p4'.out BK331.out (by decide) (.slice Ao80 t324.length co80) (.slice Ao84 t327.length co84)))) hb); replace HO323 := aM (xB (xH ((x2 HO323.out BK331.out (by decide) (.slice Ao80 t324.length co80) (.slice Ao84 t327.length co84)))) hb); replace HO326 := aM (xB (xH ((x2 HO326.out BK331.out (by decide) (.slice Ao80 t324.length co80) (.slice Ao84 t327.length co84)))) hb); replace HO329 := aM (xB (xH ((x2 HO329.out BK331.out (by decide) (.slice Ao80 t324.length co80) (.slice Ao84 t327.length co84)))) hb); replace BK297 := aM (yB (g := gb297) (o := .cells #[.slice Ao16 t290.length co16, .slice Ao18 t293.length co18] 30 (0, 0)) (by (with_reducible repeat (first | refine yN ?_ _ | refine yD ?_ | refine yA ?_ _)); refine yF ?_ NB297_331.out _; (with_reducible repeat (first | refine yN ?_ _ | refine yD ?_ | refine yA ?_ _)); refine yF ?_ NB297_331.out _; (with_reducible repeat (first | refine yN ?_ _ | refine yD ?_ | refine yA ?_ _)); exact BK297.out) hb); replace BK308 := aM (yB (g := gb308) (o := .cells #[.slice Ao23 t301.length co23, .slice Ao26 t304.length co26] 30 (0, 0)) (by (with_reducible repeat (first | refine yN ?_ _ | refine yD ?_ | refine yA ?_ _)); refine yF ?_ NB308_331.out _; (with_reducible repeat (first | refine yN ?_ _ | refine yD ?_ | refine yA ?_ _)); refine yF ?_ NB308_331.out _; (with_reducible repeat (first | refine yN ?_ _ | refine yD ?_ | refine yA ?_ _)); exact BK308.out) hb); replace BK331 := aM (yB (g := gb331) (o := .cells #[.slice Ao80 t324.length co80, .slice Ao84 t327.length co84] 30 (0, 0)) (by (with_reducible repeat (first | refine yN ?_ _ | refine yD ?_ | refine yA ?_ _)); refine yP (cs := #[.slice Ao80 t324.length co80, .slice none 0 0]) ?_ 1 _ rfl; (with_reducible repeat (first | refine yN ?_ _ | refine yD ?_ | refine yA ?_ _)); refine yP (cs := #[.slice none 0 0, .slice none 0 0]) ?_ 0 _ rfl; (with_reducible repeat (first | refine yN ?_ _ | refine yD ?_ | refine yA ?_ _)); exact BK331.out) hb); replace HB := aM (zT (zH HB.out) hb); (try clear hb)))
             go_meet
             case rel => exact ⟨_, (true), (by first | rfl | (simp; done) | (simp [*]; done)), H', ⟨by have := HJ9.out; have := HJ41.out; first | omega | exact Nat.le_refl _⟩, ⟨xH p1'.out⟩, ⟨xH (xM p2'.out (fun _ hk => ⟨hk.1.1, hk.2⟩))⟩, ⟨xH p3'.out⟩, ⟨xH (xM p4'.out (fun _ hk => ⟨hk.1.1, hk.2⟩))⟩, ⟨xH (xM HO326.out (fun _ hk => ⟨hk.1.2, hk.2⟩))⟩, ⟨xH (xM HO329.out (fun _ hk => ⟨hk.1.1.2, hk.1.2⟩))⟩, ⟨yH BK297.out⟩, ⟨yH BK308.out⟩, ⟨yH BK331.out⟩, ⟨zH HB.out⟩⟩
           case rest =>
            clear HC70
            (try clear c1); (try clear c2); (try clear p2); (try clear c3); (try clear c4); (try clear c4b0); (try clear c5); (try clear c6); (try clear c7); (try clear c8); (try clear c9); (try clear c10); (try clear c17); (try clear c24); (try clear c26); (try clear c27); (try clear c28); (try clear c29); (try clear c33); (try clear c37); (try clear c38); (try clear c39); (try clear c40); (try clear c41); (try clear c42); (try clear c47); (try clear c47b0); (try clear c49); (try clear c50); (try clear c54); (try clear c58); (try clear c61); (try clear c61b0); (try clear c62); (try clear c67); (try clear c67b0); (try clear c67b1); (try clear c71); (try clear c81); (try clear c82); (try clear c86); (try clear c87); (try clear c88); (try clear c90); (try clear c93); (try clear c94); (try clear c96); (try clear hcz17_0); (try clear hcz17_1); (try clear hcz25_0); (try clear hcz25_1); (try clear hcz30_0); (try clear hcz30_1); (try clear hcz31_0); (try clear hcz31_1); (try clear hcz34_0); (try clear hcz34_1); (try clear hcz35_0); (try clear hcz35_1); (try clear hcz51_0); (try clear hcz51_1); (try clear hcz52_0); (try clear hcz52_1); (try clear hcz55_0); (try clear hcz55_1); (try clear hcz56_0); (try clear hcz56_1); (try clear hcz63_0); (try clear hcz63_1); (try clear hcz65_0); (try clear hcz65_1); (try clear hcz72_0); (try clear hcz72_1); (try clear hcz74_0); (try clear hcz74_1); (try clear hcz83_0); (try clear hcz83_1); (try clear hcz89_0); (try clear hcz89_1); (try clear hcz91_0); (try clear hcz91_1); (try clear hcz95_0); (try clear hcz95_1); (try clear hcz97_0); (try clear hcz97_1); (try clear hfz17_0); (try clear hfz17_1); (try clear hfz25_0); (try clear hfz25_1); (try clear hfz30_0); (try clear hfz30_1); (try clear hfz31_0); (try clear hfz31_1); (try clear hfz34_0); (try clear hfz34_1); (try clear hfz35_0); (try clear hfz35_1); (try clear hfz51_0); (try clear hfz51_1); (try clear hfz52_0); (try clear hfz52_1); (try clear hfz55_0); (try clear hfz55_1); (try clear hfz56_0); (try clear hfz56_1); (try clear hfz63_0); (try clear hfz63_1); (try clear hfz65_0); (try clear hfz65_1); (try clear hfz72_0); (try clear hfz72_1); (try clear hfz74_0); (try clear hfz74_1); (try clear hfz83_0); (try clear hfz83_1); (try clear hfz89_0); (try clear hfz89_1); (try clear hfz91_0); (try clear hfz91_1); (try clear hfz95_0); (try clear hfz95_1); (try clear hfz97_0); (try clear hfz97_1); (try clear p2)
            obtain ⟨kq, x92_69, rfl, HA, HJ69, p1', p2', p3', p4', p5', p6', BK297, BK308, BK331, HB⟩ := hcut
            have hl309000_69 := (Kd.R_reads' p3'.out).1
            rw [hl309000_69] at p3'
            (try simp only [hl309000_69])
            (try simp only [hl309000_69] at BK297)
            (try simp only [hl309000_69] at BK308)
            (try simp only [hl309000_69] at BK331)
            (try simp only [hl309000_69] at p1')
            (try simp only [hl309000_69] at p2')
            (try simp only [hl309000_69] at p4')
            (try simp only [hl309000_69] at p5')
            (try simp only [hl309000_69] at p6')
            have hl309001_69 := (Kd.R_reads' p4'.out).1
            rw [hl309001_69] at p4'
            (try simp only [hl309001_69])
            (try simp only [hl309001_69] at BK297)
            (try simp only [hl309001_69] at BK308)
            (try simp only [hl309001_69] at BK331)
            (try simp only [hl309001_69] at p1')
            (try simp only [hl309001_69] at p2')
            (try simp only [hl309001_69] at p3')
            (try simp only [hl309001_69] at p5')
            (try simp only [hl309001_69] at p6')
            cases kq with
            | zero => exact absurd HA.out (fun h_ => by change none = some _ at h_; cases h_)
            | succ kj69 =>
             have H := HA.out
             clear HA
             simp only [laws_FnExactPlayDevice.j2] at H
             by_cases c99 : x92_69 = true
             ·subst c99
              have H1 : (some false) = some r := by rw [if_pos rfl] at H; exact H
              clear H
              have H := H1
              clear H1
              exact absurd (H.trans (congrArg some HR_.out)) (by decide)
             ·replace c99 := Bool.eq_false_iff.mpr c99
              subst c99
              have H1 : ((laws_heldDevice.f kj69 t318 t319 1).bind fun t333 => (if t333 < 0 then (some false) else (if t333 = t317 then (some true) else (some false)))) = some r := by rw [if_neg (show ¬ (false = true) by decide)] at H; exact H
              clear H
              have H := H1
              clear H1
              replace H := Option.bind_eq_some_iff.mp H
              obtain ⟨t333, A1000, H⟩ := H
              replace H : (if t333 < 0 then (some false) else (if t333 = t317 then (some true) else (some false))) = some r := H
              have A100 := aM A1000
              clear A1000
              by_cases c101 : t333 < 0
              ·rw [if_pos c101] at H
               have c101b0 : decide (t333 < 0) = true := decide_eq_true c101
               clear c101
               obtain rfl := Option.some.inj H
               have hnb102 := NB308_297.out
               have hnc102 := NB297_308.out
               have hnb103 := NB308_331.out
               have hnc103 := NB331_308.out
               have hcz104_0 : wc.cell? ⟨gb308, 0, none⟩ = some (.slice Ao23 t318.length co23) := yc BK308.out 0
               have hcz104_1 : wc.cell? ⟨gb308, 1, none⟩ = some (.slice Ao26 t319.length co26) := yc BK308.out 1
               have hfz104_0 := yZ BK308.out 0
               have hfz104_1 := yZ BK308.out 1
               go_wp2_with (first | ((with_reducible refine gate_callee (f := 27) rfl ?_); refine goesL_ (some 95) rfl rfl Try.func27 (by kernel_rfl) rfl #[.agg #[.slice Ao23 t318.length co23, .slice Ao26 t319.length co26], .int .i64 1] rfl (by (try simp only [List.map_toArray, List.map_cons, List.map_nil]); first | done | rfl | (simp only [List.length_drop, List.length_take]; rfl)) ?_; (with_reducible refine (laws_heldDevice.calls kj69 _ _ t318 _ _ t319 1 t333 _ ?side1 ?side2 ?side3 ?side4 A100.out).mono ?_); (case side1 => repeat (first | exact (Kd.R_reads' p3'.out).2.2 | (with_reducible refine cA ?_ _) | (with_reducible refine cN ?_ _) | (with_reducible refine cD ?_))); (case side2 => exact (Kd.R_reads' p3'.out).2.1); (case side3 => repeat (first | exact (Kd.R_reads' p4'.out).2.2 | (with_reducible refine cA ?_ _) | (with_reducible refine cN ?_ _) | (with_reducible refine cD ?_))); (case side4 => exact (Kd.R_reads' p4'.out).2.1); rintro e w105 ⟨rfl, hb⟩; refine ⟨_, rfl, ?_⟩; replace p1' := xK p1'.out hb; replace p2' := xK p2'.out hb; replace p3' := xK p3'.out hb; replace p4' := xK p4'.out hb; replace p5' := xK p5'.out hb; replace p6' := xK p6'.out hb; replace BK297 := yK BK297.out hb; replace BK308 := yK BK308.out hb; replace BK331 := yK BK331.out hb; replace HB := aM (zT (zH HB.out) hb); (try clear hb)))
               go_ret
               exact ⟨by first | rfl | (simp [errW_none, errW_some] <;> rfl) | (simp [*, errW_none, errW_some] <;> rfl), zH HB.out⟩
              ·rw [if_neg c101] at H
               have c101b0 : decide (t333 < 0) = false := decide_eq_false c101
               clear c101
               by_cases c106 : t333 = t317
               ·rw [if_pos c106] at H
                have c106b0 : (t333 == t317) = true := beq_iff_eq.mpr c106
                have c106b1 : (t333 != t317) = false := bne_eq_false_iff_eq.mpr c106
                clear c106
                obtain rfl := Option.some.inj H
                have hnb107 := NB308_297.out
                have hnc107 := NB297_308.out
                have hnb108 := NB308_331.out
                have hnc108 := NB331_308.out
                have hcz109_0 : wc.cell? ⟨gb308, 0, none⟩ = some (.slice Ao23 t318.length co23) := yc BK308.out 0
                have hcz109_1 : wc.cell? ⟨gb308, 1, none⟩ = some (.slice Ao26 t319.length co26) := yc BK308.out 1
                have hfz109_0 := yZ BK308.out 0
                have hfz109_1 := yZ BK308.out 1
                go_wp2_with (first | ((with_reducible refine gate_callee (f := 27) rfl ?_); refine goesL_ (some 95) rfl rfl Try.func27 (by kernel_rfl) rfl #[.agg #[.slice Ao23 t318.length co23, .slice Ao26 t319.length co26], .int .i64 1] rfl (by (try simp only [List.map_toArray, List.map_cons, List.map_nil]); first | done | rfl | (simp only [List.length_drop, List.length_take]; rfl)) ?_; (with_reducible refine (laws_heldDevice.calls kj69 _ _ t318 _ _ t319 1 t333 _ ?side1 ?side2 ?side3 ?side4 A100.out).mono ?_); (case side1 => repeat (first | exact (Kd.R_reads' p3'.out).2.2 | (with_reducible refine cA ?_ _) | (with_reducible refine cN ?_ _) | (with_reducible refine cD ?_))); (case side2 => exact (Kd.R_reads' p3'.out).2.1); (case side3 => repeat (first | exact (Kd.R_reads' p4'.out).2.2 | (with_reducible refine cA ?_ _) | (with_reducible refine cN ?_ _) | (with_reducible refine cD ?_))); (case side4 => exact (Kd.R_reads' p4'.out).2.1); rintro e w110 ⟨rfl, hb⟩; refine ⟨_, rfl, ?_⟩; replace p1' := xK p1'.out hb; replace p2' := xK p2'.out hb; replace p3' := xK p3'.out hb; replace p4' := xK p4'.out hb; replace p5' := xK p5'.out hb; replace p6' := xK p6'.out hb; replace BK297 := yK BK297.out hb; replace BK308 := yK BK308.out hb; replace BK331 := yK BK331.out hb; replace HB := aM (zT (zH HB.out) hb); (try clear hb)))
                go_ret
                exact ⟨by first | rfl | (simp [errW_none, errW_some] <;> rfl) | (simp [*, errW_none, errW_some] <;> rfl), zH HB.out⟩
               ·rw [if_neg c106] at H
                have c106b0 : (t333 == t317) = false := beq_eq_false_iff_ne.mpr c106
                have c106b1 : (t333 != t317) = true := bne_iff_ne.mpr c106
                obtain rfl := Option.some.inj H
                have hnb111 := NB308_297.out
                have hnc111 := NB297_308.out
                have hnb112 := NB308_331.out
                have hnc112 := NB331_308.out
                have hcz113_0 : wc.cell? ⟨gb308, 0, none⟩ = some (.slice Ao23 t318.length co23) := yc BK308.out 0
                have hcz113_1 : wc.cell? ⟨gb308, 1, none⟩ = some (.slice Ao26 t319.length co26) := yc BK308.out 1
                have hfz113_0 := yZ BK308.out 0
                have hfz113_1 := yZ BK308.out 1
                go_wp2_with (first | ((with_reducible refine gate_callee (f := 27) rfl ?_); refine goesL_ (some 95) rfl rfl Try.func27 (by kernel_rfl) rfl #[.agg #[.slice Ao23 t318.length co23, .slice Ao26 t319.length co26], .int .i64 1] rfl (by (try simp only [List.map_toArray, List.map_cons, List.map_nil]); first | done | rfl | (simp only [List.length_drop, List.length_take]; rfl)) ?_; (with_reducible refine (laws_heldDevice.calls kj69 _ _ t318 _ _ t319 1 t333 _ ?side1 ?side2 ?side3 ?side4 A100.out).mono ?_); (case side1 => repeat (first | exact (Kd.R_reads' p3'.out).2.2 | (with_reducible refine cA ?_ _) | (with_reducible refine cN ?_ _) | (with_reducible refine cD ?_))); (case side2 => exact (Kd.R_reads' p3'.out).2.1); (case side3 => repeat (first | exact (Kd.R_reads' p4'.out).2.2 | (with_reducible refine cA ?_ _) | (with_reducible refine cN ?_ _) | (with_reducible refine cD ?_))); (case side4 => exact (Kd.R_reads' p4'.out).2.1); rintro e w114 ⟨rfl, hb⟩; refine ⟨_, rfl, ?_⟩; replace p1' := xK p1'.out hb; replace p2' := xK p2'.out hb; replace p3' := xK p3'.out hb; replace p4' := xK p4'.out hb; replace p5' := xK p5'.out hb; replace p6' := xK p6'.out hb; replace BK297 := yK BK297.out hb; replace BK308 := yK BK308.out hb; replace BK331 := yK BK331.out hb; replace HB := aM (zT (zH HB.out) hb); (try clear hb)))
                go_ret
                exact ⟨by first | rfl | (simp [errW_none, errW_some] <;> rfl) | (simp [*, errW_none, errW_some] <;> rfl), zH HB.out⟩
          ·rw [if_neg c67] at H
           have c67b0 : (t320 == t317) = false := beq_eq_false_iff_ne.mpr c67
           have c67b1 : (t320 != t317) = true := bne_iff_ne.mpr c67
           obtain rfl := Option.some.inj H
           have hnb115 := NB308_297.out
           have hnc115 := NB297_308.out
           have hcz116_0 : wc.cell? ⟨gb308, 0, none⟩ = some (.slice Ao23 t301.length co23) := yc BK308.out 0
           have hcz116_1 : wc.cell? ⟨gb308, 1, none⟩ = some (.slice Ao26 t304.length co26) := yc BK308.out 1
           have hfz116_0 := yZ BK308.out 0
           have hfz116_1 := yZ BK308.out 1
           go_wp2_with (first | ((with_reducible refine gate_callee (f := 26) rfl ?_); refine goesL_ (some 68) rfl rfl Try.func26 (by kernel_rfl) rfl #[.agg #[.slice Ao23 t301.length co23, .slice Ao26 t304.length co26], .int .i64 1] rfl (by (try simp only [List.map_toArray, List.map_cons, List.map_nil]); first | done | rfl | (simp only [List.length_drop, List.length_take]; rfl)) ?_; (with_reducible refine (laws_markDevice.calls kj41 (fun k_ => some k_ = oB Ao23 t301.length co23) (.slice Ao23 t301.length co23) t301 (fun k_ => some k_ = oB Ao26 t304.length co26) (.slice Ao26 t304.length co26) t304 1 t317 t318 t319 w _ ?side1 ?side2 ?side3 A59.out).mono ?_); (case side1 => repeat (first | (with_reducible first | exact HB.out | apply zA | apply zN | apply zD | refine zS ?_ GE297.out | refine zS ?_ GE308.out) | exact HB.out)); (case side2 => exact Kd.R_tight rfl p3'.out); (case side3 => exact Kd.R_tight rfl p4'.out); rintro e w117 ⟨rfl, hy0, hy1, hb, hkp⟩; refine ⟨_, rfl, ?_⟩; replace p1' := aM (xM (ok' := fun k_ => some k_ ≠ oB Ao23 t301.length co23) (Kd.R_keptB ((Kd.R_apart' p1'.out (Kd.R_typed p4'.out) (by decide))) hkp (fun k_ hk_ hs_ => Or.elim hs_ (fun e_ => (hk_.1) e_) (fun e_ => (hk_.2) e_))) (fun k_ hk_ => hk_.1.1)); replace p2' := aM (xM (ok' := fun k_ => some k_ ≠ oB Ao26 t304.length co26) (Kd.R_keptB ((Kd.R_apart' p2'.out (Kd.R_typed p3'.out) (by decide))) hkp (fun k_ hk_ hs_ => Or.elim hs_ (fun e_ => (hk_.2) e_) (fun e_ => (hk_.1) e_))) (fun k_ hk_ => hk_.1.1)); replace BK297 := aM (blk_kept BK297.out hkp (fun hs_ => Or.elim hs_ (fun e_ => (fun e_ => (Kd.R_ne p3'.out BK297.out (by decide)) e_) e_) (fun e_ => (fun e_ => (Kd.R_ne p4'.out BK297.out (by decide)) e_) e_))); replace BK308 := aM (blk_kept BK308.out hkp (fun hs_ => Or.elim hs_ (fun e_ => (fun e_ => (Kd.R_ne p3'.out BK308.out (by decide)) e_) e_) (fun e_ => (fun e_ => (Kd.R_ne p4'.out BK308.out (by decide)) e_) e_))); replace p3' := aM (Kd.R_reok rfl hy0 (fun k_ e_ => p3'.out.1 k_ e_)); replace p4' := aM (Kd.R_reok rfl hy1 (fun k_ e_ => p4'.out.1 k_ e_)); replace HB := aM (hb); (try clear hb); (try clear hkp); (try clear hy0); (try clear hy1); have hcz118_0 : w117.cell? ⟨gb308, 0, none⟩ = some (.slice Ao23 t301.length co23) := yc BK308.out 0; have hcz118_1 : w117.cell? ⟨gb308, 1, none⟩ = some (.slice Ao26 t304.length co26) := yc BK308.out 1; have hfz118_0 := yZ BK308.out 0; have hfz118_1 := yZ BK308.out 1) | ((with_reducible refine gate_callee (f := 27) rfl ?_); refine goesL_ (some 71) rfl rfl Try.func27 (by kernel_rfl) rfl #[.agg #[.slice Ao23 t318.length co23, .slice Ao26 t319.length co26], .int .i64 1] rfl (by (try simp only [List.map_toArray, List.map_cons, List.map_nil]); first | done | (rw [show t318.length = t301.length from (Kd.R_reads' p3'.out).1.symm, show t319.length = t304.length from (Kd.R_reads' p4'.out).1.symm] <;> rfl) | rfl | (simp only [List.length_drop, List.length_take]; rfl)) ?_; (with_reducible refine (laws_heldDevice.calls kj41 _ _ t318 _ _ t319 1 t320 _ ?side1 ?side2 ?side3 ?side4 A60.out).mono ?_); (case side1 => repeat (first | exact (Kd.R_reads' p3'.out).2.2 | (with_reducible refine cA ?_ _) | (with_reducible refine cN ?_ _) | (with_reducible refine cD ?_))); (case side2 => rw [show t318.length = t301.length from (Kd.R_reads' p3'.out).1.symm]; exact (Kd.R_reads' p3'.out).2.1); (case side3 => repeat (first | exact (Kd.R_reads' p4'.out).2.2 | (with_reducible refine cA ?_ _) | (with_reducible refine cN ?_ _) | (with_reducible refine cD ?_))); (case side4 => rw [show t319.length = t304.length from (Kd.R_reads' p4'.out).1.symm]; exact (Kd.R_reads' p4'.out).2.1); rintro e w119 ⟨rfl, hb⟩; refine ⟨_, rfl, ?_⟩; replace p1' := xK p1'.out hb; replace p2' := xK p2'.out hb; replace p3' := xK p3'.out hb; replace p4' := xK p4'.out hb; replace BK297 := yK BK297.out hb; replace BK308 := yK BK308.out hb; replace HB := aM (zT (zH HB.out) hb); (try clear hb)))
           go_ret
           exact ⟨by first | rfl | (simp [errW_none, errW_some] <;> rfl) | (simp [*, errW_none, errW_some] <;> rfl), zH HB.out⟩
     ·replace c40 := Bool.eq_false_iff.mpr c40
      subst c40
      have H1 : (some false) = some r := by rw [if_neg (show ¬ (false = true) by decide)] at H; exact H
      clear H
      have H := H1
      clear H1
      exact absurd (H.trans (congrArg some HR_.out)) (by decide)
def okS38 (x : S38) : Prop := (Lit.int .i64 x.f0).wf = true ∧ x.f1.size ≤ maxLen
/-- The one pure statement of laws_FnExactPlayDevice. -/
def laws_FnExactPlayDevice.PureG : Prop := ∀ (a0 : Int) (l1 : List (S38)), (Lit.int .i64 a0).wf = true → (l1.length ≤ maxLen ∧ ∀ x_ ∈ l1, okS38 x_) → ∃ k, laws_FnExactPlayDevice.f k a0 l1 = some true

end Go.Proofs.Ytlhgkbleciokmaa.PFnExactPlayDevice
