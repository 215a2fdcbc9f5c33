/- The walks of FnExactWriteSector: Go's calls come to what the Lean functions beside them say; no condition. -/
import Derived.Test.YtlhgkbleciokmaaQFnExactWriteSectorx0
import Derived.Test.YtlhgkbleciokmaaQFnExactWriteSectorx1
import Derived.Test.YtlhgkbleciokmaaQFnExactWriteSectorx2
import Derived.Test.YtlhgkbleciokmaaQFnExactWriteSectorx3
import Derived.Test.YtlhgkbleciokmaaQFnExactWriteSectorx4
import Derived.Test.YtlhgkbleciokmaaQFnExactWriteSectorx5
import Derived.Test.YtlhgkbleciokmaaQFnExactWriteSectorx6
namespace Go.Proofs.Ytlhgkbleciokmaa.PFnExactWriteSector
open Go.RowKit Go.Proofs.YtlhgkbleciokmaaW.PrintWords Go.Proofs.YtlhgkbleciokmaaW.PrintLast Go.Proofs.YtlhgkbleciokmaaW.PrintMore
attribute [local go_sem] max2_int min2_int max_two min_two max_three min_three max_four min_four   -- for this text's walks alone
set_option linter.unusedVariables false
set_option linter.unusedSimpArgs false
set_option maxRecDepth 100000

/-! ### laws_FnExactWriteSector: function 6 -/
mutual
def laws_FnExactWriteSector.j0 : Nat → Bool → Bool → Bool → List ByteArray → List (S38) → Int → ByteArray → List ByteArray → List (S42) → List ByteArray → List (S42) → List ByteArray → List (S42) → Option (Bool)
 | 0, _, _, _, _, _, _, _, _, _, _, _, _, _ => none
 | k + 1, x7, x10, x51, x219000, x219001, x220000, x220001, x238000, x238001, x245000, x245001, x255000, x255001 => if x51 = true then (some false) else ((laws_toDevice.f k x219000 x219001).bind fun bt256 => ((laws_eqDevice.f k x245000 x245001 bt256.1 bt256.2).bind fun t262 => (if t262 = true then ((laws_markDevice.f k x245000 x245001 1).bind fun bt263 => (if bt263.1 < 0 then (laws_FnExactWriteSector.j1 k x7 true x219000 x219001 x220000 x220001 x238000 x238001 x255000 x255001) else ((laws_eqDevice.f k x255000 x255001 x238000 x238001).bind fun t266 => (if t266 = true then (laws_FnExactWriteSector.j1 k x7 (x10 != x7) x219000 x219001 x220000 x220001 x238000 x238001 x255000 x255001) else (laws_FnExactWriteSector.j1 k x7 true x219000 x219001 x220000 x220001 x238000 x238001 x255000 x255001))))) else (some false))))
def laws_FnExactWriteSector.j1 : Nat → Bool → Bool → List ByteArray → List (S38) → Int → ByteArray → List ByteArray → List (S42) → List ByteArray → List (S42) → Option (Bool)
 | 0, _, _, _, _, _, _, _, _, _, _ => none
 | k + 1, x7, x72, x219000, x219001, x220000, x220001, x238000, x238001, x255000, x255001 => if x72 = true then (some false) else ((laws_markDevice.f k x255000 x255001 1).bind fun bt267 => ((laws_heldDevice.f k bt267.2.1 bt267.2.2 1).bind fun t270 => (if t270 < 0 then (some false) else (if t270 = bt267.1 then ((laws_toDevice.f k x219000 x219001).bind fun bt271 => ((laws_toWrite.f x220000 x220001).bind fun bt277 => ((impl_WriteSector.f bt271.1 bt271.2 bt277.1 bt277.2).bind fun bt279 => ((laws_eqDevice.f k bt279.1 bt279.2.1 x238000 x238001).bind fun t287 => (if t287 = true then (laws_FnExactWriteSector.j2 k bt267.1 (bt279.2.2 != x7) bt267.2.1 bt267.2.2) else (laws_FnExactWriteSector.j2 k bt267.1 true bt267.2.1 bt267.2.2)))))) else (some false)))))
def laws_FnExactWriteSector.j2 : Nat → Int → Bool → List ByteArray → List (S42) → Option (Bool)
 | 0, _, _, _, _ => none
 | k + 1, x12, x100, x255000, x255001 => if x100 = true then (some false) else ((laws_heldDevice.f k x255000 x255001 1).bind fun t288 => (if t288 < 0 then (some false) else (if t288 = x12 then (some true) else (some false))))
end
def laws_FnExactWriteSector.f (k : Nat) (l0_0 : List ByteArray) (l0_1 : List (S38)) (a1_0 : Int) (a1_1 : ByteArray) : Option (Bool) := (laws_szDevice.f k l0_0 l0_1 1048576).bind fun t220 => (if t220 < 0 then (some true) else ((laws_szWrite.f a1_0 a1_1 t220).bind fun t221 => (if t221 < 0 then (some true) else ((laws_toDevice.f k l0_0 l0_1).bind fun bt222 => ((laws_toWrite.f a1_0 a1_1).bind fun bt228 => ((spec_WriteSector.f k bt222.1 bt222.2 bt228.1 bt228.2).bind fun bt230 => ((laws_toDevice.f k l0_0 l0_1).bind fun bt238 => ((laws_toWrite.f a1_0 a1_1).bind fun bt245 => ((impl_WriteSector.f bt238.1 bt238.2 bt245.1 bt245.2).bind fun bt247 => ((laws_eqDevice.f k bt247.1 bt247.2.1 bt230.1 bt230.2.1).bind fun t255 => (if t255 = true then (laws_FnExactWriteSector.j0 k bt230.2.2 bt247.2.2 (bt247.2.2 != bt230.2.2) l0_0 l0_1 a1_0 a1_1 bt230.1 bt230.2.1 bt238.1 bt238.2 bt247.1 bt247.2.1) else (laws_FnExactWriteSector.j0 k bt230.2.2 bt247.2.2 true l0_0 l0_1 a1_0 a1_1 bt230.1 bt230.2.1 bt238.1 bt238.2 bt247.1 bt247.2.1))))))))))))
theorem laws_FnExactWriteSector.mono_l : ∀ k, (∀ y0 y1 y2 y3 y4 y5 y6 y7 y8 y9 y10 y11 y12, LeO (laws_FnExactWriteSector.j0 k y0 y1 y2 y3 y4 y5 y6 y7 y8 y9 y10 y11 y12) (laws_FnExactWriteSector.j0 (k + 1) y0 y1 y2 y3 y4 y5 y6 y7 y8 y9 y10 y11 y12)) ∧ (∀ y0 y1 y2 y3 y4 y5 y6 y7 y8 y9, LeO (laws_FnExactWriteSector.j1 k y0 y1 y2 y3 y4 y5 y6 y7 y8 y9) (laws_FnExactWriteSector.j1 (k + 1) y0 y1 y2 y3 y4 y5 y6 y7 y8 y9)) ∧ (∀ y0 y1 y2 y3, LeO (laws_FnExactWriteSector.j2 k y0 y1 y2 y3) (laws_FnExactWriteSector.j2 (k + 1) y0 y1 y2 y3))
 | 0 => ⟨fun _ _ _ _ _ _ _ _ _ _ _ _ _ r h => by simp [laws_FnExactWriteSector.j0] at h, fun _ _ _ _ _ _ _ _ _ _ r h => by simp [laws_FnExactWriteSector.j1] at h, fun _ _ _ _ r h => by simp [laws_FnExactWriteSector.j2] at h⟩
 | k + 1 => by
  obtain ⟨ih0, ih1, ih2⟩ := laws_FnExactWriteSector.mono_l k
  refine ⟨?_, ?_, ?_⟩
  ·intro y0 y1 y2 y3 y4 y5 y6 y7 y8 y9 y10 y11 y12
   unfold laws_FnExactWriteSector.j0
   repeat' first
   | (with_reducible exact ih0 _ _ _ _ _ _ _ _ _ _ _ _ _)
   | (with_reducible exact ih1 _ _ _ _ _ _ _ _ _ _)
   | (with_reducible exact ih2 _ _ _ _)
   | (with_reducible exact laws_eqDevice.mono _ _ _ _ _)
   | (with_reducible exact laws_heldDevice.mono _ _ _ _)
   | (with_reducible exact laws_markDevice.mono _ _ _ _)
   | (with_reducible exact laws_szDevice.mono _ _ _ _)
   | (with_reducible exact laws_toDevice.mono _ _ _)
   | (with_reducible exact spec_WriteSector.mono _ _ _ _ _)
   | (with_reducible exact LeO.refl _)
   | (with_reducible exact LeO.none _)
   | (with_reducible refine LeO.ite ?_ ?_)
   | (with_reducible refine LeO.bind ?_ (fun _ => ?_))
   | exact ih0 _ _ _ _ _ _ _ _ _ _ _ _ _
   | exact ih1 _ _ _ _ _ _ _ _ _ _
   | exact ih2 _ _ _ _
   | exact laws_eqDevice.mono _ _ _ _ _
   | exact laws_heldDevice.mono _ _ _ _
   | exact laws_markDevice.mono _ _ _ _
   | exact laws_szDevice.mono _ _ _ _
   | exact laws_toDevice.mono _ _ _
   | exact spec_WriteSector.mono _ _ _ _ _
   | exact LeO.none _
   | refine LeO.ite ?_ ?_
   | refine LeO.bind ?_ (fun _ => ?_)
  ·intro y0 y1 y2 y3 y4 y5 y6 y7 y8 y9
   unfold laws_FnExactWriteSector.j1
   repeat' first
   | (with_reducible exact ih0 _ _ _ _ _ _ _ _ _ _ _ _ _)
   | (with_reducible exact ih1 _ _ _ _ _ _ _ _ _ _)
   | (with_reducible exact ih2 _ _ _ _)
   | (with_reducible exact laws_eqDevice.mono _ _ _ _ _)
   | (with_reducible exact laws_heldDevice.mono _ _ _ _)
   | (with_reducible exact laws_markDevice.mono _ _ _ _)
   | (with_reducible exact laws_szDevice.mono _ _ _ _)
   | (with_reducible exact laws_toDevice.mono _ _ _)
   | (with_reducible exact spec_WriteSector.mono _ _ _ _ _)
   | (with_reducible exact LeO.refl _)
   | (with_reducible exact LeO.none _)
   | (with_reducible refine LeO.ite ?_ ?_)
   | (with_reducible refine LeO.bind ?_ (fun _ => ?_))
   | exact ih0 _ _ _ _ _ _ _ _ _ _ _ _ _
   | exact ih1 _ _ _ _ _ _ _ _ _ _
   | exact ih2 _ _ _ _
   | exact laws_eqDevice.mono _ _ _ _ _
   | exact laws_heldDevice.mono _ _ _ _
   | exact laws_markDevice.mono _ _ _ _
   | exact laws_szDevice.mono _ _ _ _
   | exact laws_toDevice.mono _ _ _
   | exact spec_WriteSector.mono _ _ _ _ _
   | exact LeO.none _
   | refine LeO.ite ?_ ?_
   | refine LeO.bind ?_ (fun _ => ?_)
  ·intro y0 y1 y2 y3
   unfold laws_FnExactWriteSector.j2
   repeat' first
   | (with_reducible exact ih0 _ _ _ _ _ _ _ _ _ _ _ _ _)
   | (with_reducible exact ih1 _ _ _ _ _ _ _ _ _ _)
   | (with_reducible exact ih2 _ _ _ _)
   | (with_reducible exact laws_eqDevice.mono _ _ _ _ _)
   | (with_reducible exact laws_heldDevice.mono _ _ _ _)
   | (with_reducible exact laws_markDevice.mono _ _ _ _)
   | (with_reducible exact laws_szDevice.mono _ _ _ _)
   | (with_reducible exact laws_toDevice.mono _ _ _)
   | (with_reducible exact spec_WriteSector.mono _ _ _ _ _)
   | (with_reducible exact LeO.refl _)
   | (with_reducible exact LeO.none _)
   | (with_reducible refine LeO.ite ?_ ?_)
   | (with_reducible refine LeO.bind ?_ (fun _ => ?_))
   | exact ih0 _ _ _ _ _ _ _ _ _ _ _ _ _
   | exact ih1 _ _ _ _ _ _ _ _ _ _
   | exact ih2 _ _ _ _
   | exact laws_eqDevice.mono _ _ _ _ _
   | exact laws_heldDevice.mono _ _ _ _
   | exact laws_markDevice.mono _ _ _ _
   | exact laws_szDevice.mono _ _ _ _
   | exact laws_toDevice.mono _ _ _
   | exact spec_WriteSector.mono _ _ _ _ _
   | exact LeO.none _
   | refine LeO.ite ?_ ?_
   | refine LeO.bind ?_ (fun _ => ?_)
theorem laws_FnExactWriteSector.mono : ∀ a0 a1 a2 a3 k, LeO (laws_FnExactWriteSector.f k a0 a1 a2 a3) (laws_FnExactWriteSector.f (k + 1) a0 a1 a2 a3) := by
 intro a0 a1 a2 a3 k
 obtain ⟨ih0, ih1, ih2⟩ := laws_FnExactWriteSector.mono_l k
 unfold laws_FnExactWriteSector.f
 repeat' first
   | (with_reducible exact ih0 _ _ _ _ _ _ _ _ _ _ _ _ _)
   | (with_reducible exact ih1 _ _ _ _ _ _ _ _ _ _)
   | (with_reducible exact ih2 _ _ _ _)
   | (with_reducible exact laws_eqDevice.mono _ _ _ _ _)
   | (with_reducible exact laws_heldDevice.mono _ _ _ _)
   | (with_reducible exact laws_markDevice.mono _ _ _ _)
   | (with_reducible exact laws_szDevice.mono _ _ _ _)
   | (with_reducible exact laws_toDevice.mono _ _ _)
   | (with_reducible exact spec_WriteSector.mono _ _ _ _ _)
   | (with_reducible exact LeO.refl _)
   | (with_reducible exact LeO.none _)
   | (with_reducible refine LeO.ite ?_ ?_)
   | (with_reducible refine LeO.bind ?_ (fun _ => ?_))
   | exact ih0 _ _ _ _ _ _ _ _ _ _ _ _ _
   | exact ih1 _ _ _ _ _ _ _ _ _ _
   | exact ih2 _ _ _ _
   | exact laws_eqDevice.mono _ _ _ _ _
   | exact laws_heldDevice.mono _ _ _ _
   | exact laws_markDevice.mono _ _ _ _
   | exact laws_szDevice.mono _ _ _ _
   | exact laws_toDevice.mono _ _ _
   | exact spec_WriteSector.mono _ _ _ _ _
   | exact LeO.none _
   | refine LeO.ite ?_ ?_
   | refine LeO.bind ?_ (fun _ => ?_)
def laws_FnExactWriteSector.T8 : Bool × List (List Nat × List Nat) := (true, [([], []), ([0], [0]), ([], []), ([2, 1], [2]), ([1, 3, 3], [1, 3]), ([4], [4]), ([5], [5]), ([5], [5]), ([], []), ([8, 6, 4, 0, 1, 2, 3, 4, 5, 6, 8], [6, 8]), ([7, 9, 0, 1, 2, 3, 4, 5, 6, 7, 8, 9], [7])])
def laws_FnExactWriteSector.B8 : List Nat := [0, 1, 0, 7, 15, 31, 63, 63, 0, 383, 1023]
theorem laws_FnExactWriteSector.tab8 : rtab .any (opsOf Try.f6 8) = laws_FnExactWriteSector.T8 := by kernel_rfl
theorem laws_FnExactWriteSector.bits8 : waitsOk laws_FnExactWriteSector.T8.2 laws_FnExactWriteSector.B8 = true := by kernel_rfl
def laws_FnExactWriteSector.T10 : Bool × List (List Nat × List Nat) := (true, [([], []), ([], []), ([1], [1]), ([0, 2, 2], [0, 2]), ([3], [3]), ([4], [4]), ([4], [4]), ([], []), ([7, 5, 3, 0, 1, 2, 3, 4, 5, 7], [5, 7]), ([6, 8, 0, 1, 2, 3, 4, 5, 6, 7, 8], [6])])
def laws_FnExactWriteSector.B10 : List Nat := [0, 0, 2, 7, 15, 31, 31, 0, 191, 511]
theorem laws_FnExactWriteSector.tab10 : rtab .any (opsOf Try.f6 10) = laws_FnExactWriteSector.T10 := by kernel_rfl
theorem laws_FnExactWriteSector.bits10 : waitsOk laws_FnExactWriteSector.T10.2 laws_FnExactWriteSector.B10 = true := by kernel_rfl
def laws_FnExactWriteSector.T27 : Bool × List (List Nat × List Nat) := (true, [([], []), ([0], [0]), ([], []), ([2, 1], [2]), ([1, 3, 3], [1, 3]), ([4], [4]), ([5], [5]), ([5], [5]), ([], []), ([8, 6, 4, 0, 1, 2, 3, 4, 5, 6, 8], [6, 8]), ([7, 9, 0, 1, 2, 3, 4, 5, 6, 7, 8, 9], [7])])
def laws_FnExactWriteSector.B27 : List Nat := [0, 1, 0, 7, 15, 31, 63, 63, 0, 383, 1023]
theorem laws_FnExactWriteSector.tab27 : rtab .any (opsOf Try.f6 27) = laws_FnExactWriteSector.T27 := by kernel_rfl
theorem laws_FnExactWriteSector.bits27 : waitsOk laws_FnExactWriteSector.T27.2 laws_FnExactWriteSector.B27 = true := by kernel_rfl
set_option maxHeartbeats 8000000 in
set_option maxRecDepth 100000 in
theorem laws_FnExactWriteSector.calls (k : Nat) (A0_0 : Option Addr) (c0_0 : Nat) (l0_0 : List ByteArray) (A0_1 : Option Addr) (c0_1 : Nat) (l0_1 : List (S38)) (a1_0 : Int) (a1_1 : ByteArray) (r : Bool) (w : World) (hr0_0 : Kd.C Kd.string w A0_0 l0_0.length l0_0) (hc0_0 : l0_0.length ≤ c0_0) (hr0_1 : Kd.C k38 w A0_1 l0_1.length l0_1) (hc0_1 : l0_1.length ≤ c0_1) (h : laws_FnExactWriteSector.f k l0_0 l0_1 a1_0 a1_1 = some r) (hr_ : r = true := by rfl) :
  Calls Try.prog 6 #[.agg #[.slice A0_0 l0_0.length c0_0, .slice A0_1 l0_1.length c0_1], .agg #[.int .i64 a1_0, .string a1_1]] w fun e w' => e = .returned (.bool r) ∧ Below w.heap.size w w' := by
 have HR_ := aM hr_
 clear hr_
 have hu25 := Try.underlying25
 have hu38 := Try.underlying38
 have hu30 := Try.underlying30
 have HR0_0 := aM hr0_0
 have HC0_0 := aM hc0_0
 clear hr0_0 hc0_0
 have HR0_1 := aM hr0_1
 have HC0_1 := aM hc0_1
 clear hr0_1 hc0_1
 have HB := aM (Below.refl w.heap.size w)
 have H : ((laws_szDevice.f k l0_0 l0_1 1048576).bind fun t220 => (if t220 < 0 then (some true) else ((laws_szWrite.f a1_0 a1_1 t220).bind fun t221 => (if t221 < 0 then (some true) else ((laws_toDevice.f k l0_0 l0_1).bind fun bt222 => ((laws_toWrite.f a1_0 a1_1).bind fun bt228 => ((spec_WriteSector.f k bt222.1 bt222.2 bt228.1 bt228.2).bind fun bt230 => ((laws_toDevice.f k l0_0 l0_1).bind fun bt238 => ((laws_toWrite.f a1_0 a1_1).bind fun bt245 => ((impl_WriteSector.f bt238.1 bt238.2 bt245.1 bt245.2).bind fun bt247 => ((laws_eqDevice.f k bt247.1 bt247.2.1 bt230.1 bt230.2.1).bind fun t255 => (if t255 = true then (laws_FnExactWriteSector.j0 k bt230.2.2 bt247.2.2 (bt247.2.2 != bt230.2.2) l0_0 l0_1 a1_0 a1_1 bt230.1 bt230.2.1 bt238.1 bt238.2 bt247.1 bt247.2.1) else (laws_FnExactWriteSector.j0 k bt230.2.2 bt247.2.2 true l0_0 l0_1 a1_0 a1_1 bt230.1 bt230.2.1 bt238.1 bt238.2 bt247.1 bt247.2.1))))))))))))) = some r := h
 clear h
 replace H := Option.bind_eq_some_iff.mp H
 obtain ⟨t220, A30, H⟩ := H
 replace H : (if t220 < 0 then (some true) else ((laws_szWrite.f a1_0 a1_1 t220).bind fun t221 => (if t221 < 0 then (some true) else ((laws_toDevice.f k l0_0 l0_1).bind fun bt222 => ((laws_toWrite.f a1_0 a1_1).bind fun bt228 => ((spec_WriteSector.f k bt222.1 bt222.2 bt228.1 bt228.2).bind fun bt230 => ((laws_toDevice.f k l0_0 l0_1).bind fun bt238 => ((laws_toWrite.f a1_0 a1_1).bind fun bt245 => ((impl_WriteSector.f bt238.1 bt238.2 bt245.1 bt245.2).bind fun bt247 => ((laws_eqDevice.f k bt247.1 bt247.2.1 bt230.1 bt230.2.1).bind fun t255 => (if t255 = true then (laws_FnExactWriteSector.j0 k bt230.2.2 bt247.2.2 (bt247.2.2 != bt230.2.2) l0_0 l0_1 a1_0 a1_1 bt230.1 bt230.2.1 bt238.1 bt238.2 bt247.1 bt247.2.1) else (laws_FnExactWriteSector.j0 k bt230.2.2 bt247.2.2 true l0_0 l0_1 a1_0 a1_1 bt230.1 bt230.2.1 bt238.1 bt238.2 bt247.1 bt247.2.1)))))))))))) = some r := H
 have A3 := aM A30
 clear A30
 by_cases c4 : t220 < 0
 ·rw [if_pos c4] at H
  have c4b0 : decide (t220 < 0) = true := decide_eq_true c4
  clear c4
  obtain rfl := Option.some.inj H
  go_enter Try.func6, Try.ntmps6
  go_wp2_with (first | ((with_reducible refine gate_dst (N := 2) rfl ?_); refine box_event ?hg (N := 2) ?hd (cs := #[.slice A0_0 l0_0.length c0_0, .slice A0_1 l0_1.length c0_1]) (t := 25) ?hr ?_; (case hd => rfl); (case hg => rfl); (case hr => first | (go_simp; done) | (go_simp; rfl)); intro gb218 hg w5 hbox hb; have BK218 := aM (hbox); have GW218 := aM ((by rw [hg]; exact (zZ (zH HB.out)) : w.heap.size ≤ gb218)); have GE218 := aM ((by rw [hg]; exact (zZ (zH HB.out)) : w.heap.size ≤ gb218)); replace HB := aM (zT (zH HB.out) hb); clear hb hbox hg) | ((with_reducible refine gate_dst (N := 3) rfl ?_); refine box_event ?hg (N := 3) ?hd (cs := #[.int .i64 a1_0, .string a1_1]) (t := 38) ?hr ?_; (case hd => rfl); (case hg => rfl); (case hr => first | (go_simp; done) | (go_simp; rfl)); intro gb219 hg w6 hbox hb; have BK219 := aM (hbox); have GW219 := aM ((by rw [hg]; exact (zZ (zH HB.out)) : w.heap.size ≤ gb219)); have GE219 := aM ((by rw [hg]; exact (zZ (zH HB.out)) : w.heap.size ≤ gb219)); replace HB := aM (zT (zH HB.out) hb); have NB218_219 := nL BK218.out hg; have NB219_218 := nR BK218.out hg; replace BK218 := yK BK218.out hb; clear hb hbox hg; have hnb7 := NB218_219.out; have hnc7 := NB219_218.out; have hcz8_0 : w6.cell? ⟨gb218, 0, none⟩ = some (.slice A0_0 l0_0.length c0_0) := yc BK218.out 0; have hcz8_1 : w6.cell? ⟨gb218, 1, none⟩ = some (.slice A0_1 l0_1.length c0_1) := yc BK218.out 1; have hfz8_0 := yZ BK218.out 0; have hfz8_1 := yZ BK218.out 1) | ((with_reducible refine gate_callee (f := 13) rfl ?_); refine goesL_ (some 18) rfl rfl Try.func13 (by kernel_rfl) rfl #[.agg #[.slice A0_0 l0_0.length c0_0, .slice A0_1 l0_1.length c0_1], .int .i64 1048576] rfl (by (try simp only [List.map_toArray, List.map_cons, List.map_nil]); first | done | rfl | (simp only [List.length_drop, List.length_take]; rfl)) ?_; (with_reducible refine (laws_szDevice.calls k _ _ l0_0 _ _ l0_1 1048576 t220 _ ?side1 ?side2 ?side3 ?side4 A3.out).mono ?_); (case side1 => exact cK HR0_0.out HB.out); (case side2 => exact HC0_0.out); (case side3 => exact cK HR0_1.out HB.out); (case side4 => exact HC0_1.out); rintro e w9 ⟨rfl, hb⟩; refine ⟨_, rfl, ?_⟩; replace BK218 := yK BK218.out hb; replace BK219 := yK BK219.out hb; replace HB := aM (zT (zH HB.out) hb); (try clear hb)))
  go_ret
  exact ⟨by first | rfl | (simp [errW_none, errW_some] <;> rfl) | (simp [*, errW_none, errW_some] <;> rfl), zH HB.out⟩
 ·rw [if_neg c4] at H
  have c4b0 : decide (t220 < 0) = false := decide_eq_false c4
  clear c4
  replace H := Option.bind_eq_some_iff.mp H
  obtain ⟨t221, A100, H⟩ := H
  replace H : (if t221 < 0 then (some true) else ((laws_toDevice.f k l0_0 l0_1).bind fun bt222 => ((laws_toWrite.f a1_0 a1_1).bind fun bt228 => ((spec_WriteSector.f k bt222.1 bt222.2 bt228.1 bt228.2).bind fun bt230 => ((laws_toDevice.f k l0_0 l0_1).bind fun bt238 => ((laws_toWrite.f a1_0 a1_1).bind fun bt245 => ((impl_WriteSector.f bt238.1 bt238.2 bt245.1 bt245.2).bind fun bt247 => ((laws_eqDevice.f k bt247.1 bt247.2.1 bt230.1 bt230.2.1).bind fun t255 => (if t255 = true then (laws_FnExactWriteSector.j0 k bt230.2.2 bt247.2.2 (bt247.2.2 != bt230.2.2) l0_0 l0_1 a1_0 a1_1 bt230.1 bt230.2.1 bt238.1 bt238.2 bt247.1 bt247.2.1) else (laws_FnExactWriteSector.j0 k bt230.2.2 bt247.2.2 true l0_0 l0_1 a1_0 a1_1 bt230.1 bt230.2.1 bt238.1 bt238.2 bt247.1 bt247.2.1)))))))))) = some r := H
  have A10 := aM A100
  clear A100
  by_cases c11 : t221 < 0
  ·rw [if_pos c11] at H
   have c11b0 : decide (t221 < 0) = true := decide_eq_true c11
   clear c11
   obtain rfl := Option.some.inj H
   go_enter Try.func6, Try.ntmps6
   go_wp2_with (first | ((with_reducible refine gate_dst (N := 2) rfl ?_); refine box_event ?hg (N := 2) ?hd (cs := #[.slice A0_0 l0_0.length c0_0, .slice A0_1 l0_1.length c0_1]) (t := 25) ?hr ?_; (case hd => rfl); (case hg => rfl); (case hr => first | (go_simp; done) | (go_simp; rfl)); intro gb218 hg w12 hbox hb; have BK218 := aM (hbox); have GW218 := aM ((by rw [hg]; exact (zZ (zH HB.out)) : w.heap.size ≤ gb218)); have GE218 := aM ((by rw [hg]; exact (zZ (zH HB.out)) : w.heap.size ≤ gb218)); replace HB := aM (zT (zH HB.out) hb); clear hb hbox hg) | ((with_reducible refine gate_dst (N := 3) rfl ?_); refine box_event ?hg (N := 3) ?hd (cs := #[.int .i64 a1_0, .string a1_1]) (t := 38) ?hr ?_; (case hd => rfl); (case hg => rfl); (case hr => first | (go_simp; done) | (go_simp; rfl)); intro gb219 hg w13 hbox hb; have BK219 := aM (hbox); have GW219 := aM ((by rw [hg]; exact (zZ (zH HB.out)) : w.heap.size ≤ gb219)); have GE219 := aM ((by rw [hg]; exact (zZ (zH HB.out)) : w.heap.size ≤ gb219)); replace HB := aM (zT (zH HB.out) hb); have NB218_219 := nL BK218.out hg; have NB219_218 := nR BK218.out hg; replace BK218 := yK BK218.out hb; clear hb hbox hg; have hnb14 := NB218_219.out; have hnc14 := NB219_218.out; have hcz15_0 : w13.cell? ⟨gb218, 0, none⟩ = some (.slice A0_0 l0_0.length c0_0) := yc BK218.out 0; have hcz15_1 : w13.cell? ⟨gb218, 1, none⟩ = some (.slice A0_1 l0_1.length c0_1) := yc BK218.out 1; have hfz15_0 := yZ BK218.out 0; have hfz15_1 := yZ BK218.out 1) | ((with_reducible refine gate_callee (f := 13) rfl ?_); refine goesL_ (some 18) rfl rfl Try.func13 (by kernel_rfl) rfl #[.agg #[.slice A0_0 l0_0.length c0_0, .slice A0_1 l0_1.length c0_1], .int .i64 1048576] rfl (by (try simp only [List.map_toArray, List.map_cons, List.map_nil]); first | done | rfl | (simp only [List.length_drop, List.length_take]; rfl)) ?_; (with_reducible refine (laws_szDevice.calls k _ _ l0_0 _ _ l0_1 1048576 t220 _ ?side1 ?side2 ?side3 ?side4 A3.out).mono ?_); (case side1 => exact cK HR0_0.out HB.out); (case side2 => exact HC0_0.out); (case side3 => exact cK HR0_1.out HB.out); (case side4 => exact HC0_1.out); rintro e w16 ⟨rfl, hb⟩; refine ⟨_, rfl, ?_⟩; replace BK218 := yK BK218.out hb; replace BK219 := yK BK219.out hb; replace HB := aM (zT (zH HB.out) hb); (try clear hb); have hcz17_0 : w16.cell? ⟨gb219, 0, none⟩ = some (.int .i64 a1_0) := yc BK219.out 0; have hcz17_1 : w16.cell? ⟨gb219, 1, none⟩ = some (.string a1_1) := yc BK219.out 1; have hfz17_0 := yZ BK219.out 0; have hfz17_1 := yZ BK219.out 1) | ((with_reducible refine gate_callee (f := 22) rfl ?_); refine goesL_ (some 23) rfl rfl Try.func22 (by kernel_rfl) rfl #[.agg #[.int .i64 a1_0, .string a1_1], .int .i64 t220] rfl (by (try simp only [List.map_toArray, List.map_cons, List.map_nil]); first | done | rfl | (simp only [List.length_drop, List.length_take]; rfl)) ?_; (with_reducible refine (laws_szWrite.calls a1_0 a1_1 t220 t221 _ A10.out).mono ?_); rintro e w18 ⟨rfl, hb⟩; refine ⟨_, rfl, ?_⟩; replace BK218 := yK BK218.out hb; replace BK219 := yK BK219.out hb; replace HB := aM (zT (zH HB.out) hb); (try clear hb)))
   go_ret
   exact ⟨by first | rfl | (simp [errW_none, errW_some] <;> rfl) | (simp [*, errW_none, errW_some] <;> rfl), zH HB.out⟩
  ·rw [if_neg c11] at H
   have c11b0 : decide (t221 < 0) = false := decide_eq_false c11
   clear c11
   replace H := Option.bind_eq_some_iff.mp H
   obtain ⟨⟨t222, t225⟩, A190, H⟩ := H
   replace H : ((laws_toWrite.f a1_0 a1_1).bind fun bt228 => ((spec_WriteSector.f k t222 t225 bt228.1 bt228.2).bind fun bt230 => ((laws_toDevice.f k l0_0 l0_1).bind fun bt238 => ((laws_toWrite.f a1_0 a1_1).bind fun bt245 => ((impl_WriteSector.f bt238.1 bt238.2 bt245.1 bt245.2).bind fun bt247 => ((laws_eqDevice.f k bt247.1 bt247.2.1 bt230.1 bt230.2.1).bind fun t255 => (if t255 = true then (laws_FnExactWriteSector.j0 k bt230.2.2 bt247.2.2 (bt247.2.2 != bt230.2.2) l0_0 l0_1 a1_0 a1_1 bt230.1 bt230.2.1 bt238.1 bt238.2 bt247.1 bt247.2.1) else (laws_FnExactWriteSector.j0 k bt230.2.2 bt247.2.2 true l0_0 l0_1 a1_0 a1_1 bt230.1 bt230.2.1 bt238.1 bt238.2 bt247.1 bt247.2.1)))))))) = some r := H
   have A19 := aM A190
   clear A190
   replace H := Option.bind_eq_some_iff.mp H
   obtain ⟨⟨t228, t229⟩, A200, H⟩ := H
   replace H : ((spec_WriteSector.f k t222 t225 t228 t229).bind fun bt230 => ((laws_toDevice.f k l0_0 l0_1).bind fun bt238 => ((laws_toWrite.f a1_0 a1_1).bind fun bt245 => ((impl_WriteSector.f bt238.1 bt238.2 bt245.1 bt245.2).bind fun bt247 => ((laws_eqDevice.f k bt247.1 bt247.2.1 bt230.1 bt230.2.1).bind fun t255 => (if t255 = true then (laws_FnExactWriteSector.j0 k bt230.2.2 bt247.2.2 (bt247.2.2 != bt230.2.2) l0_0 l0_1 a1_0 a1_1 bt230.1 bt230.2.1 bt238.1 bt238.2 bt247.1 bt247.2.1) else (laws_FnExactWriteSector.j0 k bt230.2.2 bt247.2.2 true l0_0 l0_1 a1_0 a1_1 bt230.1 bt230.2.1 bt238.1 bt238.2 bt247.1 bt247.2.1))))))) = some r := H
   have A20 := aM A200
   clear A200
   replace H := Option.bind_eq_some_iff.mp H
   obtain ⟨⟨t230, t233, t236⟩, A210, H⟩ := H
   replace H : ((laws_toDevice.f k l0_0 l0_1).bind fun bt238 => ((laws_toWrite.f a1_0 a1_1).bind fun bt245 => ((impl_WriteSector.f bt238.1 bt238.2 bt245.1 bt245.2).bind fun bt247 => ((laws_eqDevice.f k bt247.1 bt247.2.1 t230 t233).bind fun t255 => (if t255 = true then (laws_FnExactWriteSector.j0 k t236 bt247.2.2 (bt247.2.2 != t236) l0_0 l0_1 a1_0 a1_1 t230 t233 bt238.1 bt238.2 bt247.1 bt247.2.1) else (laws_FnExactWriteSector.j0 k t236 bt247.2.2 true l0_0 l0_1 a1_0 a1_1 t230 t233 bt238.1 bt238.2 bt247.1 bt247.2.1)))))) = some r := H
   have A21 := aM A210
   clear A210
   replace H := Option.bind_eq_some_iff.mp H
   obtain ⟨⟨t238, t241⟩, A220, H⟩ := H
   replace H : ((laws_toWrite.f a1_0 a1_1).bind fun bt245 => ((impl_WriteSector.f t238 t241 bt245.1 bt245.2).bind fun bt247 => ((laws_eqDevice.f k bt247.1 bt247.2.1 t230 t233).bind fun t255 => (if t255 = true then (laws_FnExactWriteSector.j0 k t236 bt247.2.2 (bt247.2.2 != t236) l0_0 l0_1 a1_0 a1_1 t230 t233 t238 t241 bt247.1 bt247.2.1) else (laws_FnExactWriteSector.j0 k t236 bt247.2.2 true l0_0 l0_1 a1_0 a1_1 t230 t233 t238 t241 bt247.1 bt247.2.1))))) = some r := H
   have A22 := aM A220
   clear A220
   replace H := Option.bind_eq_some_iff.mp H
   obtain ⟨⟨t245, t246⟩, A230, H⟩ := H
   replace H : ((impl_WriteSector.f t238 t241 t245 t246).bind fun bt247 => ((laws_eqDevice.f k bt247.1 bt247.2.1 t230 t233).bind fun t255 => (if t255 = true then (laws_FnExactWriteSector.j0 k t236 bt247.2.2 (bt247.2.2 != t236) l0_0 l0_1 a1_0 a1_1 t230 t233 t238 t241 bt247.1 bt247.2.1) else (laws_FnExactWriteSector.j0 k t236 bt247.2.2 true l0_0 l0_1 a1_0 a1_1 t230 t233 t238 t241 bt247.1 bt247.2.1)))) = some r := H
   have A23 := aM A230
   clear A230
   replace H := Option.bind_eq_some_iff.mp H
   obtain ⟨⟨t247, t250, t253⟩, A240, H⟩ := H
   replace H : ((laws_eqDevice.f k t247 t250 t230 t233).bind fun t255 => (if t255 = true then (laws_FnExactWriteSector.j0 k t236 t253 (t253 != t236) l0_0 l0_1 a1_0 a1_1 t230 t233 t238 t241 t247 t250) else (laws_FnExactWriteSector.j0 k t236 t253 true l0_0 l0_1 a1_0 a1_1 t230 t233 t238 t241 t247 t250))) = some r := H
   have A24 := aM A240
   clear A240
   have HC25 := aM H
   clear H
   go_enter Try.func6, Try.ntmps6
   try go_wp2_with (first | ((with_reducible refine gate_dst (N := 2) rfl ?_); refine box_event ?hg (N := 2) ?hd (cs := #[.slice A0_0 l0_0.length c0_0, .slice A0_1 l0_1.length c0_1]) (t := 25) ?hr ?_; (case hd => rfl); (case hg => rfl); (case hr => first | (go_simp; done) | (go_simp; rfl)); intro gb218 hg w26 hbox hb; have BK218 := aM (hbox); have GW218 := aM ((by rw [hg]; exact (zZ (zH HB.out)) : w.heap.size ≤ gb218)); have GE218 := aM ((by rw [hg]; exact (zZ (zH HB.out)) : w.heap.size ≤ gb218)); replace HB := aM (zT (zH HB.out) hb); clear hb hbox hg) | ((with_reducible refine gate_dst (N := 3) rfl ?_); refine box_event ?hg (N := 3) ?hd (cs := #[.int .i64 a1_0, .string a1_1]) (t := 38) ?hr ?_; (case hd => rfl); (case hg => rfl); (case hr => first | (go_simp; done) | (go_simp; rfl)); intro gb219 hg w27 hbox hb; have BK219 := aM (hbox); have GW219 := aM ((by rw [hg]; exact (zZ (zH HB.out)) : w.heap.size ≤ gb219)); have GE219 := aM ((by rw [hg]; exact (zZ (zH HB.out)) : w.heap.size ≤ gb219)); replace HB := aM (zT (zH HB.out) hb); have NB218_219 := nL BK218.out hg; have NB219_218 := nR BK218.out hg; replace BK218 := yK BK218.out hb; clear hb hbox hg; have hnb28 := NB218_219.out; have hnc28 := NB219_218.out; have hcz29_0 : w27.cell? ⟨gb218, 0, none⟩ = some (.slice A0_0 l0_0.length c0_0) := yc BK218.out 0; have hcz29_1 : w27.cell? ⟨gb218, 1, none⟩ = some (.slice A0_1 l0_1.length c0_1) := yc BK218.out 1; have hfz29_0 := yZ BK218.out 0; have hfz29_1 := yZ BK218.out 1) | ((with_reducible refine gate_callee (f := 13) rfl ?_); refine goesL_ (some 18) rfl rfl Try.func13 (by kernel_rfl) rfl #[.agg #[.slice A0_0 l0_0.length c0_0, .slice A0_1 l0_1.length c0_1], .int .i64 1048576] rfl (by (try simp only [List.map_toArray, List.map_cons, List.map_nil]); first | done | rfl | (simp only [List.length_drop, List.length_take]; rfl)) ?_; (with_reducible refine (laws_szDevice.calls k _ _ l0_0 _ _ l0_1 1048576 t220 _ ?side1 ?side2 ?side3 ?side4 A3.out).mono ?_); (case side1 => exact cK HR0_0.out HB.out); (case side2 => exact HC0_0.out); (case side3 => exact cK HR0_1.out HB.out); (case side4 => exact HC0_1.out); rintro e w30 ⟨rfl, hb⟩; refine ⟨_, rfl, ?_⟩; replace BK218 := yK BK218.out hb; replace BK219 := yK BK219.out hb; replace HB := aM (zT (zH HB.out) hb); (try clear hb); have hcz31_0 : w30.cell? ⟨gb219, 0, none⟩ = some (.int .i64 a1_0) := yc BK219.out 0; have hcz31_1 : w30.cell? ⟨gb219, 1, none⟩ = some (.string a1_1) := yc BK219.out 1; have hfz31_0 := yZ BK219.out 0; have hfz31_1 := yZ BK219.out 1) | ((with_reducible refine gate_callee (f := 22) rfl ?_); refine goesL_ (some 23) rfl rfl Try.func22 (by kernel_rfl) rfl #[.agg #[.int .i64 a1_0, .string a1_1], .int .i64 t220] rfl (by (try simp only [List.map_toArray, List.map_cons, List.map_nil]); first | done | rfl | (simp only [List.length_drop, List.length_take]; rfl)) ?_; (with_reducible refine (laws_szWrite.calls a1_0 a1_1 t220 t221 _ A10.out).mono ?_); rintro e w32 ⟨rfl, hb⟩; refine ⟨_, rfl, ?_⟩; replace BK218 := yK BK218.out hb; replace BK219 := yK BK219.out hb; replace HB := aM (zT (zH HB.out) hb); (try clear hb)))
   replace BK218 := aM (yD BK218.out)
   replace BK219 := aM (yD BK219.out)
   replace HB := aM (zD HB.out)
   refine start_ (n := 11) (S := fun w' => w'.cell? ⟨gb218, 0, none⟩ = some (.slice A0_0 l0_0.length c0_0) ∧ w'.cell? ⟨gb218, 1, none⟩ = some (.slice A0_1 l0_1.length c0_1) ∧ w'.cell? ⟨gb219, 0, none⟩ = some (.int .i64 a1_0) ∧ w'.cell? ⟨gb219, 1, none⟩ = some (.string a1_1)) (ds := []) #[fF,fF,fF,fF,fF,fF,fF,fF,fF,fF,fF] (by kernel_rfl) rfl rfl ⟨yc BK218.out 0, yc BK218.out 1, yc BK219.out 0, yc BK219.out 1⟩ (fun hHeld => ?_); refine with_tabW laws_FnExactWriteSector.tab8 laws_FnExactWriteSector.bits8 (fun HT_ HW_ => ?_)
   generalize w32.drew = w33 at BK218 BK219 HB hHeld ⊢
   refine take_ (i := 0) (N := some 27) (v := ?_) (a' := ?_) #[tT,fF,fF,fF,fF,fF,fF,fF,fF,fF,fF] rfl rfl (take_ofW HT_.out HW_.out (by kernel_rfl)) (fun _ _ _ h => h) (Or.inl ⟨by rfl, ?_⟩) hHeld ?_ ?_
   rotate_left
   ·rintro w' ⟨s0, s1, s2, s3⟩
    go_simp
    with_reducible rfl
   rotate_left
   ·simp only [Act.put, qA, qB, qC, i64_w, i32_w]
    rfl
   refine take_ (i := 2) (N := some 29) (v := ?_) (a' := ?_) #[tT,fF,tT,fF,fF,fF,fF,fF,fF,fF,fF] rfl rfl (take_ofW HT_.out HW_.out (by kernel_rfl)) (fun _ _ _ h => h) (Or.inl ⟨by rfl, ?_⟩) hHeld ?_ ?_
   rotate_left
   ·rintro w' ⟨s0, s1, s2, s3⟩
    go_simp
    with_reducible rfl
   rotate_left
   ·simp only [Act.put, qA, qB, qC, i64_w, i32_w]
    rfl
   refine join_ (σ := Value × Value × Value × Value × Nat) 2 #[tT,tT,tT,tT,tT,tT,tT,tT,tT,fF,fF] (fun s_ => [(28, .agg #[s_.1, s_.2.1]), (30, .agg #[.int .i64 t228, .string t229]), (31, .tuple #[.agg #[s_.2.2.1, s_.2.2.2.1], .bool t236]), (6, .pointer (some ⟨s_.2.2.2.2, 0, none⟩)), (26, .tuple #[.agg #[s_.2.2.1, s_.2.2.2.1], .bool t236]), (32, .agg #[s_.2.2.1, s_.2.2.2.1]), (33, .bool t236)]) (fun s_ w' => (w'.cell? ⟨gb218, 0, none⟩ = some (.slice A0_0 l0_0.length c0_0) ∧ w'.cell? ⟨gb218, 1, none⟩ = some (.slice A0_1 l0_1.length c0_1) ∧ w'.cell? ⟨gb219, 0, none⟩ = some (.int .i64 a1_0) ∧ w'.cell? ⟨gb219, 1, none⟩ = some (.string a1_1)) ∧ (Kd.R Kd.string 9 w' w.heap.size (fun k_ => some k_ ≠ (s_.2.2.1 : Value).ownBlock) s_.1 t222) ∧ (Kd.R k42 42 w' w.heap.size (fun k_ => some k_ ≠ (s_.2.2.2.1 : Value).ownBlock) s_.2.1 t225) ∧ (Kd.R Kd.string 9 w' w.heap.size (fun k_ => some k_ ≠ (s_.1 : Value).ownBlock) s_.2.2.1 t230) ∧ (Kd.R k42 42 w' w.heap.size (fun k_ => some k_ ≠ (s_.2.1 : Value).ownBlock) s_.2.2.2.1 t233) ∧ (w'.heap[gb218]? = some (.cells #[.slice A0_0 l0_0.length c0_0, .slice A0_1 l0_1.length c0_1] 25 (0, 0))) ∧ (w'.heap[gb219]? = some (.cells #[.int .i64 a1_0, .string a1_1] 38 (0, 0))) ∧ (w'.heap[s_.2.2.2.2]? = some (.cells #[.slice none 0 0, .slice none 0 0] 30 (0, 0))) ∧ (w.heap.size ≤ s_.2.2.2.2) ∧ (w.heap.size ≤ s_.2.2.2.2) ∧ (gb218 ≠ s_.2.2.2.2) ∧ (s_.2.2.2.2 ≠ gb218) ∧ (gb219 ≠ s_.2.2.2.2) ∧ (s_.2.2.2.2 ≠ gb219) ∧ (Below w.heap.size w w')) ?_ ?_
   rotate_left
   ·intro hCont
    refine two_ (i := 1) (j := 8) (Ni := some 28) (Nj := some 6) #[tT,tT,tT,fF,fF,fF,fF,fF,fF,fF,fF] #[tT,fF,tT,fF,fF,fF,fF,fF,tT,fF,fF] rfl rfl rfl rfl (two_of HT_.out (by kernel_rfl)) (by decide) (by decide) (fun K hK => ?_) (fun K hK => ?_)
    ·skip
     refine gS Try.func15 (by kernel_rfl) rfl #[.agg #[.slice A0_0 l0_0.length c0_0, .slice A0_1 l0_1.length c0_1]] (by rfl) rfl rfl ?_
     with_reducible refine (laws_toDevice.calls k _ _ l0_0 _ _ l0_1 t222 t225 _ ?side1 ?side2 ?side3 ?side4 A19.out).mono ?_
     (case side1 => exact cK HR0_0.out HB.out)
     (case side2 => exact HC0_0.out)
     (case side3 => exact cK HR0_1.out HB.out)
     (case side4 => exact HC0_1.out)
     rintro e w34 ⟨v223, v226, rfl, ho0, ho1, hb⟩
     refine ⟨_, rfl, ?_⟩
     have HO224 := aM (xL ho0 (zZ (zH HB.out)))
     have HO227 := aM (xL ho1 (zZ (zH HB.out)))
     replace BK218 := yK BK218.out hb
     replace BK219 := yK BK219.out hb
     replace HB := aM (zT (zH HB.out) hb)
     (try clear hb); (try clear ho0); (try clear ho1)
     refine hK.out _ _ ⟨yc BK218.out 0, yc BK218.out 1, yc BK219.out 0, yc BK219.out 1⟩ (fun hHeld => ?_)
     clear hK K
     refine norm_ (a' := ?_) ?_ ?_
     rotate_left
     ·show Act.put _ (some 28) _ = _
      simp only [Act.put, qA, qB, qC, i64_w, i32_w]
      rfl
     refine two_ (i := 3) (j := 8) (Ni := some 30) (Nj := some 6) #[tT,tT,tT,tT,fF,fF,fF,fF,fF,fF,fF] #[tT,tT,tT,fF,fF,fF,fF,fF,tT,fF,fF] rfl rfl rfl rfl (two_of HT_.out (by kernel_rfl)) (by decide) (by decide) (fun K hK => ?_) (fun K hK => ?_)
     ·skip
      refine gS Try.func24 (by kernel_rfl) rfl #[.agg #[.int .i64 a1_0, .string a1_1]] (by rfl) rfl rfl ?_
      with_reducible refine (laws_toWrite.calls a1_0 a1_1 t228 t229 _ A20.out).mono ?_
      rintro e w35 ⟨rfl, hb⟩
      refine ⟨_, rfl, ?_⟩
      replace HO224 := xK HO224.out hb
      replace HO227 := xK HO227.out hb
      replace BK218 := yK BK218.out hb
      replace BK219 := yK BK219.out hb
      replace HB := aM (zT (zH HB.out) hb)
      (try clear hb)
      obtain ⟨Ao36, co36, eo36⟩ := Kd.R_slice HO224.out
      (first | subst eo36 | obtain ⟨rfl, rfl⟩ := eI eo36)
      obtain ⟨Ao37, co37, eo37⟩ := Kd.R_slice HO227.out
      (first | subst eo37 | obtain ⟨rfl, rfl⟩ := eI eo37)
      refine hK.out _ _ ⟨yc BK218.out 0, yc BK218.out 1, yc BK219.out 0, yc BK219.out 1⟩ (fun hHeld => ?_)
      clear hK K
      refine norm_ (a' := ?_) ?_ ?_
      rotate_left
      ·show Act.put _ (some 30) _ = _
       simp only [Act.put, qA, qB, qC, i64_w, i32_w]
       rfl
      refine two_ (i := 4) (j := 8) (Ni := some 31) (Nj := some 6) #[tT,tT,tT,tT,tT,fF,fF,fF,fF,fF,fF] #[tT,tT,tT,tT,fF,fF,fF,fF,tT,fF,fF] rfl rfl rfl rfl (two_of HT_.out (by kernel_rfl)) (by decide) (by decide) (fun K hK => ?_) (fun K hK => ?_)
      ·skip
       refine gS Try.func23 (by kernel_rfl) rfl #[.agg #[.slice Ao36 t222.length co36, .slice Ao37 t225.length co37], .agg #[.int .i64 t228, .string t229]] (by rfl) rfl rfl ?_
       with_reducible refine (spec_WriteSector.calls k _ _ t222 _ _ t225 t228 t229 t230 t233 t236 _ ?side1 ?side2 ?side3 ?side4 A21.out).mono ?_
       (case side1 => repeat (first | exact (Kd.R_reads' HO224.out).2.2 | (with_reducible refine cA ?_ _) | (with_reducible refine cN ?_ _) | (with_reducible refine cD ?_)))
       (case side2 => exact (Kd.R_reads' HO224.out).2.1)
       (case side3 => repeat (first | exact (Kd.R_reads' HO227.out).2.2 | (with_reducible refine cA ?_ _) | (with_reducible refine cN ?_ _) | (with_reducible refine cD ?_)))
       (case side4 => exact (Kd.R_reads' HO227.out).2.1)
       rintro e w38 ⟨v231, v234, rfl, ho0, ho1, hb⟩
       refine ⟨_, rfl, ?_⟩
       have HO232 := aM (xL (Kd.R_new' ho0 (Kd.R_lt (xH HO224.out))) (zZ (zH HB.out)))
       replace HO224 := aM (Kd.R_elder' (xH HO224.out) (Kd.R_base ho0) hb)
       have HO235 := aM (xL (Kd.R_new' ho1 (Kd.R_lt (xH HO227.out))) (zZ (zH HB.out)))
       replace HO227 := aM (Kd.R_elder' (xH HO227.out) (Kd.R_base ho1) hb)
       replace BK218 := yK BK218.out hb
       replace BK219 := yK BK219.out hb
       replace HB := aM (zT (zH HB.out) hb)
       (try clear hb); (try clear ho0); (try clear ho1)
       refine hK.out _ _ ⟨yc BK218.out 0, yc BK218.out 1, yc BK219.out 0, yc BK219.out 1⟩ (fun hHeld => ?_)
       clear hK K
       refine norm_ (a' := ?_) ?_ ?_
       rotate_left
       ·show Act.put _ (some 31) _ = _
        simp only [Act.put, qA, qB, qC, i64_w, i32_w]
        rfl
       refine pure_ (i := 5) (N := some 26) (v := ?_) (a' := ?_) #[tT,tT,tT,tT,tT,tT,fF,fF,fF,fF,fF] rfl rfl (any_of HT_.out (by kernel_rfl)) (fun _ _ _ h => h) (Or.inl ⟨by rfl, ?_⟩) ?_ ?_
       rotate_left
       ·intro w'
        go_simp
        with_reducible rfl
       rotate_left
       ·simp only [Act.put, qA, qB, qC, i64_w, i32_w]
        rfl
       refine pure_ (i := 6) (N := some 32) (v := ?_) (a' := ?_) #[tT,tT,tT,tT,tT,tT,tT,fF,fF,fF,fF] rfl rfl (any_of HT_.out (by kernel_rfl)) (fun _ _ _ h => h) (Or.inl ⟨by rfl, ?_⟩) ?_ ?_
       rotate_left
       ·intro w'
        go_simp
        with_reducible rfl
       rotate_left
       ·simp only [Act.put, qA, qB, qC, i64_w, i32_w]
        rfl
       refine pure_ (i := 7) (N := some 33) (v := ?_) (a' := ?_) #[tT,tT,tT,tT,tT,tT,tT,tT,fF,fF,fF] rfl rfl (any_of HT_.out (by kernel_rfl)) (fun _ _ _ h => h) (Or.inl ⟨by rfl, ?_⟩) ?_ ?_
       rotate_left
       ·intro w'
        go_simp
        with_reducible rfl
       rotate_left
       ·simp only [Act.put, qA, qB, qC, i64_w, i32_w]
        rfl
       refine one_ (i := 8) (N := some 6) #[tT,tT,tT,tT,tT,tT,tT,tT,tT,fF,fF] rfl rfl (one_of HT_.out (by kernel_rfl)) (by decide) (fun K hK => ?_)
       refine box_step ?hg (N := 6) ?hd (cs := #[.slice none 0 0, .slice none 0 0]) (t := 30) ?hr ?_; (case hd => rfl); (case hg => rfl); (case hr => first | (go_simp; done) | (go_simp; rfl))
       intro gb237 hg w39 hbox hb
       replace HO224 := xK HO224.out hb
       replace HO227 := xK HO227.out hb
       replace HO232 := xK HO232.out hb
       replace HO235 := xK HO235.out hb
       have BK237 := aM (hbox)
       have GW237 := aM ((by rw [hg]; exact (zZ (zH HB.out)) : w.heap.size ≤ gb237))
       have GE237 := aM ((by rw [hg]; exact (zZ (zH HB.out)) : w.heap.size ≤ gb237))
       replace HB := aM (zT (zH HB.out) hb)
       have NB218_237 := nL BK218.out hg
       have NB237_218 := nR BK218.out hg
       replace BK218 := yK BK218.out hb
       have NB219_237 := nL BK219.out hg
       have NB237_219 := nR BK219.out hg
       replace BK219 := yK BK219.out hb
       clear hb hbox hg
       refine hK.out _ _ ⟨yc BK218.out 0, yc BK218.out 1, yc BK219.out 0, yc BK219.out 1⟩ (fun hHeld => ?_)
       clear hK K
       refine norm_ (a' := ?_) ?_ ?_
       rotate_left
       ·show Act.put _ (some 6) _ = _
        simp only [Act.put, qA, qB, qC, i64_w, i32_w]
        rfl
       exact norm_ (by simp only [putAll, Act.put, qA, qB, qC]) (hCont (.slice Ao36 t222.length co36, .slice Ao37 t225.length co37, v231, v234, gb237) _ ⟨hHeld, (xH (xM HO224.out (fun _ hk => hk.2))), (xH (xM HO227.out (fun _ hk => hk.2))), (xH (xM HO232.out (fun _ hk => hk.2))), (xH (xM HO235.out (fun _ hk => hk.2))), (yH BK218.out), (yH BK219.out), (yH BK237.out), GW237.out, GE237.out, NB218_237.out, NB237_218.out, NB219_237.out, NB237_219.out, (zH HB.out)⟩)
      ·skip
       refine box_step ?hg (N := 6) ?hd (cs := #[.slice none 0 0, .slice none 0 0]) (t := 30) ?hr ?_; (case hd => rfl); (case hg => rfl); (case hr => first | (go_simp; done) | (go_simp; rfl))
       intro gb237 hg w36 hbox hb
       replace HO224 := xK HO224.out hb
       replace HO227 := xK HO227.out hb
       have BK237 := aM (hbox)
       have GW237 := aM ((by rw [hg]; exact (zZ (zH HB.out)) : w.heap.size ≤ gb237))
       have GE237 := aM ((by rw [hg]; exact (zZ (zH HB.out)) : w.heap.size ≤ gb237))
       replace HB := aM (zT (zH HB.out) hb)
       have NB218_237 := nL BK218.out hg
       have NB237_218 := nR BK218.out hg
       replace BK218 := yK BK218.out hb
       have NB219_237 := nL BK219.out hg
       have NB237_219 := nR BK219.out hg
       replace BK219 := yK BK219.out hb
       clear hb hbox hg
       obtain ⟨Ao37, co37, eo37⟩ := Kd.R_slice HO224.out
       (first | subst eo37 | obtain ⟨rfl, rfl⟩ := eI eo37)
       obtain ⟨Ao38, co38, eo38⟩ := Kd.R_slice HO227.out
       (first | subst eo38 | obtain ⟨rfl, rfl⟩ := eI eo38)
       refine hK.out _ _ ⟨yc BK218.out 0, yc BK218.out 1, yc BK219.out 0, yc BK219.out 1⟩ (fun hHeld => ?_)
       clear hK K
       refine norm_ (a' := ?_) ?_ ?_
       rotate_left
       ·show Act.put _ (some 6) _ = _
        simp only [Act.put, qA, qB, qC, i64_w, i32_w]
        rfl
       refine one_ (i := 4) (N := some 31) #[tT,tT,tT,tT,tT,fF,fF,fF,tT,fF,fF] rfl rfl (one_of HT_.out (by kernel_rfl)) (by decide) (fun K hK => ?_)
       refine gS Try.func23 (by kernel_rfl) rfl #[.agg #[.slice Ao37 t222.length co37, .slice Ao38 t225.length co38], .agg #[.int .i64 t228, .string t229]] (by rfl) rfl rfl ?_
       with_reducible refine (spec_WriteSector.calls k _ _ t222 _ _ t225 t228 t229 t230 t233 t236 _ ?side1 ?side2 ?side3 ?side4 A21.out).mono ?_
       (case side1 => repeat (first | exact (Kd.R_reads' HO224.out).2.2 | (with_reducible refine cA ?_ _) | (with_reducible refine cN ?_ _) | (with_reducible refine cD ?_)))
       (case side2 => exact (Kd.R_reads' HO224.out).2.1)
       (case side3 => repeat (first | exact (Kd.R_reads' HO227.out).2.2 | (with_reducible refine cA ?_ _) | (with_reducible refine cN ?_ _) | (with_reducible refine cD ?_)))
       (case side4 => exact (Kd.R_reads' HO227.out).2.1)
       rintro e w39 ⟨v231, v234, rfl, ho0, ho1, hb⟩
       refine ⟨_, rfl, ?_⟩
       have HO232 := aM (xL (Kd.R_new' ho0 (Kd.R_lt (xH HO224.out))) (zZ (zH HB.out)))
       replace HO224 := aM (Kd.R_elder' (xH HO224.out) (Kd.R_base ho0) hb)
       have HO235 := aM (xL (Kd.R_new' ho1 (Kd.R_lt (xH HO227.out))) (zZ (zH HB.out)))
       replace HO227 := aM (Kd.R_elder' (xH HO227.out) (Kd.R_base ho1) hb)
       replace BK218 := yK BK218.out hb
       replace BK219 := yK BK219.out hb
       replace BK237 := yK BK237.out hb
       replace HB := aM (zT (zH HB.out) hb)
       (try clear hb); (try clear ho0); (try clear ho1)
       refine hK.out _ _ ⟨yc BK218.out 0, yc BK218.out 1, yc BK219.out 0, yc BK219.out 1⟩ (fun hHeld => ?_)
       clear hK K
       refine norm_ (a' := ?_) ?_ ?_
       rotate_left
       ·show Act.put _ (some 31) _ = _
        simp only [Act.put, qA, qB, qC, i64_w, i32_w]
        rfl
       refine pure_ (i := 5) (N := some 26) (v := ?_) (a' := ?_) #[tT,tT,tT,tT,tT,tT,fF,fF,tT,fF,fF] rfl rfl (any_of HT_.out (by kernel_rfl)) (fun _ _ _ h => h) (Or.inl ⟨by rfl, ?_⟩) ?_ ?_
       rotate_left
       ·intro w'
        go_simp
        with_reducible rfl
       rotate_left
       ·simp only [Act.put, qA, qB, qC, i64_w, i32_w]
        rfl
       refine pure_ (i := 6) (N := some 32) (v := ?_) (a' := ?_) #[tT,tT,tT,tT,tT,tT,tT,fF,tT,fF,fF] rfl rfl (any_of HT_.out (by kernel_rfl)) (fun _ _ _ h => h) (Or.inl ⟨by rfl, ?_⟩) ?_ ?_
       rotate_left
       ·intro w'
        go_simp
        with_reducible rfl
       rotate_left
       ·simp only [Act.put, qA, qB, qC, i64_w, i32_w]
        rfl
       refine pure_ (i := 7) (N := some 33) (v := ?_) (a' := ?_) #[tT,tT,tT,tT,tT,tT,tT,tT,tT,fF,fF] rfl rfl (any_of HT_.out (by kernel_rfl)) (fun _ _ _ h => h) (Or.inl ⟨by rfl, ?_⟩) ?_ ?_
       rotate_left
       ·intro w'
        go_simp
        with_reducible rfl
       rotate_left
       ·simp only [Act.put, qA, qB, qC, i64_w, i32_w]
        rfl
       exact norm_ (by simp only [putAll, Act.put, qA, qB, qC]) (hCont (.slice Ao37 t222.length co37, .slice Ao38 t225.length co38, v231, v234, gb237) _ ⟨hHeld, (xH (xM HO224.out (fun _ hk => hk.2))), (xH (xM HO227.out (fun _ hk => hk.2))), (xH (xM HO232.out (fun _ hk => hk.2))), (xH (xM HO235.out (fun _ hk => hk.2))), (yH BK218.out), (yH BK219.out), (yH BK237.out), GW237.out, GE237.out, NB218_237.out, NB237_218.out, NB219_237.out, NB237_219.out, (zH HB.out)⟩)
     ·skip
      refine box_step ?hg (N := 6) ?hd (cs := #[.slice none 0 0, .slice none 0 0]) (t := 30) ?hr ?_; (case hd => rfl); (case hg => rfl); (case hr => first | (go_simp; done) | (go_simp; rfl))
      intro gb237 hg w35 hbox hb
      replace HO224 := xK HO224.out hb
      replace HO227 := xK HO227.out hb
      have BK237 := aM (hbox)
      have GW237 := aM ((by rw [hg]; exact (zZ (zH HB.out)) : w.heap.size ≤ gb237))
      have GE237 := aM ((by rw [hg]; exact (zZ (zH HB.out)) : w.heap.size ≤ gb237))
      replace HB := aM (zT (zH HB.out) hb)
      have NB218_237 := nL BK218.out hg
      have NB237_218 := nR BK218.out hg
      replace BK218 := yK BK218.out hb
      have NB219_237 := nL BK219.out hg
      have NB237_219 := nR BK219.out hg
      replace BK219 := yK BK219.out hb
      clear hb hbox hg
      refine hK.out _ _ ⟨yc BK218.out 0, yc BK218.out 1, yc BK219.out 0, yc BK219.out 1⟩ (fun hHeld => ?_)
      clear hK K
      refine norm_ (a' := ?_) ?_ ?_
      rotate_left
      ·show Act.put _ (some 6) _ = _
       simp only [Act.put, qA, qB, qC, i64_w, i32_w]
       rfl
      refine one_ (i := 3) (N := some 30) #[tT,tT,tT,tT,fF,fF,fF,fF,tT,fF,fF] rfl rfl (one_of HT_.out (by kernel_rfl)) (by decide) (fun K hK => ?_)
      refine gS Try.func24 (by kernel_rfl) rfl #[.agg #[.int .i64 a1_0, .string a1_1]] (by rfl) rfl rfl ?_
      with_reducible refine (laws_toWrite.calls a1_0 a1_1 t228 t229 _ A20.out).mono ?_
      rintro e w36 ⟨rfl, hb⟩
      refine ⟨_, rfl, ?_⟩
      replace HO224 := xK HO224.out hb
      replace HO227 := xK HO227.out hb
      replace BK218 := yK BK218.out hb
      replace BK219 := yK BK219.out hb
      replace BK237 := yK BK237.out hb
      replace HB := aM (zT (zH HB.out) hb)
      (try clear hb)
      obtain ⟨Ao37, co37, eo37⟩ := Kd.R_slice HO224.out
      (first | subst eo37 | obtain ⟨rfl, rfl⟩ := eI eo37)
      obtain ⟨Ao38, co38, eo38⟩ := Kd.R_slice HO227.out
      (first | subst eo38 | obtain ⟨rfl, rfl⟩ := eI eo38)
      refine hK.out _ _ ⟨yc BK218.out 0, yc BK218.out 1, yc BK219.out 0, yc BK219.out 1⟩ (fun hHeld => ?_)
      clear hK K
      refine norm_ (a' := ?_) ?_ ?_
      rotate_left
      ·show Act.put _ (some 30) _ = _
       simp only [Act.put, qA, qB, qC, i64_w, i32_w]
       rfl
      refine one_ (i := 4) (N := some 31) #[tT,tT,tT,tT,tT,fF,fF,fF,tT,fF,fF] rfl rfl (one_of HT_.out (by kernel_rfl)) (by decide) (fun K hK => ?_)
      refine gS Try.func23 (by kernel_rfl) rfl #[.agg #[.slice Ao37 t222.length co37, .slice Ao38 t225.length co38], .agg #[.int .i64 t228, .string t229]] (by rfl) rfl rfl ?_
      with_reducible refine (spec_WriteSector.calls k _ _ t222 _ _ t225 t228 t229 t230 t233 t236 _ ?side1 ?side2 ?side3 ?side4 A21.out).mono ?_
      (case side1 => repeat (first | exact (Kd.R_reads' HO224.out).2.2 | (with_reducible refine cA ?_ _) | (with_reducible refine cN ?_ _) | (with_reducible refine cD ?_)))
      (case side2 => exact (Kd.R_reads' HO224.out).2.1)
      (case side3 => repeat (first | exact (Kd.R_reads' HO227.out).2.2 | (with_reducible refine cA ?_ _) | (with_reducible refine cN ?_ _) | (with_reducible refine cD ?_)))
      (case side4 => exact (Kd.R_reads' HO227.out).2.1)
      rintro e w39 ⟨v231, v234, rfl, ho0, ho1, hb⟩
      refine ⟨_, rfl, ?_⟩
      have HO232 := aM (xL (Kd.R_new' ho0 (Kd.R_lt (xH HO224.out))) (zZ (zH HB.out)))
      replace HO224 := aM (Kd.R_elder' (xH HO224.out) (Kd.R_base ho0) hb)
      have HO235 := aM (xL (Kd.R_new' ho1 (Kd.R_lt (xH HO227.out))) (zZ (zH HB.out)))
      replace HO227 := aM (Kd.R_elder' (xH HO227.out) (Kd.R_base ho1) hb)
      replace BK218 := yK BK218.out hb
      replace BK219 := yK BK219.out hb
      replace BK237 := yK BK237.out hb
      replace HB := aM (zT (zH HB.out) hb)
      (try clear hb); (try clear ho0); (try clear ho1)
      refine hK.out _ _ ⟨yc BK218.out 0, yc BK218.out 1, yc BK219.out 0, yc BK219.out 1⟩ (fun hHeld => ?_)
      clear hK K
      refine norm_ (a' := ?_) ?_ ?_
      rotate_left
      ·show Act.put _ (some 31) _ = _
       simp only [Act.put, qA, qB, qC, i64_w, i32_w]
       rfl
      refine pure_ (i := 5) (N := some 26) (v := ?_) (a' := ?_) #[tT,tT,tT,tT,tT,tT,fF,fF,tT,fF,fF] rfl rfl (any_of HT_.out (by kernel_rfl)) (fun _ _ _ h => h) (Or.inl ⟨by rfl, ?_⟩) ?_ ?_
      rotate_left
      ·intro w'
       go_simp
       with_reducible rfl
      rotate_left
      ·simp only [Act.put, qA, qB, qC, i64_w, i32_w]
       rfl
      refine pure_ (i := 6) (N := some 32) (v := ?_) (a' := ?_) #[tT,tT,tT,tT,tT,tT,tT,fF,tT,fF,fF] rfl rfl (any_of HT_.out (by kernel_rfl)) (fun _ _ _ h => h) (Or.inl ⟨by rfl, ?_⟩) ?_ ?_
      rotate_left
      ·intro w'
       go_simp
       with_reducible rfl
      rotate_left
      ·simp only [Act.put, qA, qB, qC, i64_w, i32_w]
       rfl
      refine pure_ (i := 7) (N := some 33) (v := ?_) (a' := ?_) #[tT,tT,tT,tT,tT,tT,tT,tT,tT,fF,fF] rfl rfl (any_of HT_.out (by kernel_rfl)) (fun _ _ _ h => h) (Or.inl ⟨by rfl, ?_⟩) ?_ ?_
      rotate_left
      ·intro w'
       go_simp
       with_reducible rfl
      rotate_left
      ·simp only [Act.put, qA, qB, qC, i64_w, i32_w]
       rfl
      exact norm_ (by simp only [putAll, Act.put, qA, qB, qC]) (hCont (.slice Ao37 t222.length co37, .slice Ao38 t225.length co38, v231, v234, gb237) _ ⟨hHeld, (xH (xM HO224.out (fun _ hk => hk.2))), (xH (xM HO227.out (fun _ hk => hk.2))), (xH (xM HO232.out (fun _ hk => hk.2))), (xH (xM HO235.out (fun _ hk => hk.2))), (yH BK218.out), (yH BK219.out), (yH BK237.out), GW237.out, GE237.out, NB218_237.out, NB237_218.out, NB219_237.out, NB237_219.out, (zH HB.out)⟩)
    ·skip
     refine box_step ?hg (N := 6) ?hd (cs := #[.slice none 0 0, .slice none 0 0]) (t := 30) ?hr ?_; (case hd => rfl); (case hg => rfl); (case hr => first | (go_simp; done) | (go_simp; rfl))
     intro gb237 hg w34 hbox hb
     have BK237 := aM (hbox)
     have GW237 := aM ((by rw [hg]; exact (zZ (zH HB.out)) : w.heap.size ≤ gb237))
     have GE237 := aM ((by rw [hg]; exact (zZ (zH HB.out)) : w.heap.size ≤ gb237))
     replace HB := aM (zT (zH HB.out) hb)
     have NB218_237 := nL BK218.out hg
     have NB237_218 := nR BK218.out hg
     replace BK218 := yK BK218.out hb
     have NB219_237 := nL BK219.out hg
     have NB237_219 := nR BK219.out hg
     replace BK219 := yK BK219.out hb
     clear hb hbox hg
     refine hK.out _ _ ⟨yc BK218.out 0, yc BK218.out 1, yc BK219.out 0, yc BK219.out 1⟩ (fun hHeld => ?_)
     clear hK K
     refine norm_ (a' := ?_) ?_ ?_
     rotate_left
     ·show Act.put _ (some 6) _ = _
      simp only [Act.put, qA, qB, qC, i64_w, i32_w]
      rfl
     refine one_ (i := 1) (N := some 28) #[tT,tT,tT,fF,fF,fF,fF,fF,tT,fF,fF] rfl rfl (one_of HT_.out (by kernel_rfl)) (by decide) (fun K hK => ?_)
     refine gS Try.func15 (by kernel_rfl) rfl #[.agg #[.slice A0_0 l0_0.length c0_0, .slice A0_1 l0_1.length c0_1]] (by rfl) rfl rfl ?_
     with_reducible refine (laws_toDevice.calls k _ _ l0_0 _ _ l0_1 t222 t225 _ ?side1 ?side2 ?side3 ?side4 A19.out).mono ?_
     (case side1 => exact cK HR0_0.out HB.out)
     (case side2 => exact HC0_0.out)
     (case side3 => exact cK HR0_1.out HB.out)
     (case side4 => exact HC0_1.out)
     rintro e w35 ⟨v223, v226, rfl, ho0, ho1, hb⟩
     refine ⟨_, rfl, ?_⟩
     have HO224 := aM (xL ho0 (zZ (zH HB.out)))
     have HO227 := aM (xL ho1 (zZ (zH HB.out)))
     replace BK218 := yK BK218.out hb
     replace BK219 := yK BK219.out hb
     replace BK237 := yK BK237.out hb
     replace HB := aM (zT (zH HB.out) hb)
     (try clear hb); (try clear ho0); (try clear ho1)
     refine hK.out _ _ ⟨yc BK218.out 0, yc BK218.out 1, yc BK219.out 0, yc BK219.out 1⟩ (fun hHeld => ?_)
     clear hK K
     refine norm_ (a' := ?_) ?_ ?_
     rotate_left
     ·show Act.put _ (some 28) _ = _
      simp only [Act.put, qA, qB, qC, i64_w, i32_w]
      rfl
     refine one_ (i := 3) (N := some 30) #[tT,tT,tT,tT,fF,fF,fF,fF,tT,fF,fF] rfl rfl (one_of HT_.out (by kernel_rfl)) (by decide) (fun K hK => ?_)
     refine gS Try.func24 (by kernel_rfl) rfl #[.agg #[.int .i64 a1_0, .string a1_1]] (by rfl) rfl rfl ?_
     with_reducible refine (laws_toWrite.calls a1_0 a1_1 t228 t229 _ A20.out).mono ?_
     rintro e w36 ⟨rfl, hb⟩
     refine ⟨_, rfl, ?_⟩
     replace HO224 := xK HO224.out hb
     replace HO227 := xK HO227.out hb
     replace BK218 := yK BK218.out hb
     replace BK219 := yK BK219.out hb
     replace BK237 := yK BK237.out hb
     replace HB := aM (zT (zH HB.out) hb)
     (try clear hb)
     obtain ⟨Ao37, co37, eo37⟩ := Kd.R_slice HO224.out
     (first | subst eo37 | obtain ⟨rfl, rfl⟩ := eI eo37)
     obtain ⟨Ao38, co38, eo38⟩ := Kd.R_slice HO227.out
     (first | subst eo38 | obtain ⟨rfl, rfl⟩ := eI eo38)
     refine hK.out _ _ ⟨yc BK218.out 0, yc BK218.out 1, yc BK219.out 0, yc BK219.out 1⟩ (fun hHeld => ?_)
     clear hK K
     refine norm_ (a' := ?_) ?_ ?_
     rotate_left
     ·show Act.put _ (some 30) _ = _
      simp only [Act.put, qA, qB, qC, i64_w, i32_w]
      rfl
     refine one_ (i := 4) (N := some 31) #[tT,tT,tT,tT,tT,fF,fF,fF,tT,fF,fF] rfl rfl (one_of HT_.out (by kernel_rfl)) (by decide) (fun K hK => ?_)
     refine gS Try.func23 (by kernel_rfl) rfl #[.agg #[.slice Ao37 t222.length co37, .slice Ao38 t225.length co38], .agg #[.int .i64 t228, .string t229]] (by rfl) rfl rfl ?_
     with_reducible refine (spec_WriteSector.calls k _ _ t222 _ _ t225 t228 t229 t230 t233 t236 _ ?side1 ?side2 ?side3 ?side4 A21.out).mono ?_
     (case side1 => repeat (first | exact (Kd.R_reads' HO224.out).2.2 | (with_reducible refine cA ?_ _) | (with_reducible refine cN ?_ _) | (with_reducible refine cD ?_)))
     (case side2 => exact (Kd.R_reads' HO224.out).2.1)
     (case side3 => repeat (first | exact (Kd.R_reads' HO227.out).2.2 | (with_reducible refine cA ?_ _) | (with_reducible refine cN ?_ _) | (with_reducible refine cD ?_)))
     (case side4 => exact (Kd.R_reads' HO227.out).2.1)
     rintro e w39 ⟨v231, v234, rfl, ho0, ho1, hb⟩
     refine ⟨_, rfl, ?_⟩
     have HO232 := aM (xL (Kd.R_new' ho0 (Kd.R_lt (xH HO224.out))) (zZ (zH HB.out)))
     replace HO224 := aM (Kd.R_elder' (xH HO224.out) (Kd.R_base ho0) hb)
     have HO235 := aM (xL (Kd.R_new' ho1 (Kd.R_lt (xH HO227.out))) (zZ (zH HB.out)))
     replace HO227 := aM (Kd.R_elder' (xH HO227.out) (Kd.R_base ho1) hb)
     replace BK218 := yK BK218.out hb
     replace BK219 := yK BK219.out hb
     replace BK237 := yK BK237.out hb
     replace HB := aM (zT (zH HB.out) hb)
     (try clear hb); (try clear ho0); (try clear ho1)
     refine hK.out _ _ ⟨yc BK218.out 0, yc BK218.out 1, yc BK219.out 0, yc BK219.out 1⟩ (fun hHeld => ?_)
     clear hK K
     refine norm_ (a' := ?_) ?_ ?_
     rotate_left
     ·show Act.put _ (some 31) _ = _
      simp only [Act.put, qA, qB, qC, i64_w, i32_w]
      rfl
     refine pure_ (i := 5) (N := some 26) (v := ?_) (a' := ?_) #[tT,tT,tT,tT,tT,tT,fF,fF,tT,fF,fF] rfl rfl (any_of HT_.out (by kernel_rfl)) (fun _ _ _ h => h) (Or.inl ⟨by rfl, ?_⟩) ?_ ?_
     rotate_left
     ·intro w'
      go_simp
      with_reducible rfl
     rotate_left
     ·simp only [Act.put, qA, qB, qC, i64_w, i32_w]
      rfl
     refine pure_ (i := 6) (N := some 32) (v := ?_) (a' := ?_) #[tT,tT,tT,tT,tT,tT,tT,fF,tT,fF,fF] rfl rfl (any_of HT_.out (by kernel_rfl)) (fun _ _ _ h => h) (Or.inl ⟨by rfl, ?_⟩) ?_ ?_
     rotate_left
     ·intro w'
      go_simp
      with_reducible rfl
     rotate_left
     ·simp only [Act.put, qA, qB, qC, i64_w, i32_w]
      rfl
     refine pure_ (i := 7) (N := some 33) (v := ?_) (a' := ?_) #[tT,tT,tT,tT,tT,tT,tT,tT,tT,fF,fF] rfl rfl (any_of HT_.out (by kernel_rfl)) (fun _ _ _ h => h) (Or.inl ⟨by rfl, ?_⟩) ?_ ?_
     rotate_left
     ·intro w'
      go_simp
      with_reducible rfl
     rotate_left
     ·simp only [Act.put, qA, qB, qC, i64_w, i32_w]
      rfl
     exact norm_ (by simp only [putAll, Act.put, qA, qB, qC]) (hCont (.slice Ao37 t222.length co37, .slice Ao38 t225.length co38, v231, v234, gb237) _ ⟨hHeld, (xH (xM HO224.out (fun _ hk => hk.2))), (xH (xM HO227.out (fun _ hk => hk.2))), (xH (xM HO232.out (fun _ hk => hk.2))), (xH (xM HO235.out (fun _ hk => hk.2))), (yH BK218.out), (yH BK219.out), (yH BK237.out), GW237.out, GE237.out, NB218_237.out, NB237_218.out, NB219_237.out, NB237_219.out, (zH HB.out)⟩)
   rintro ⟨v223, v226, v231, v234, gb237⟩ w40 ⟨hS_, h0_, h1_, h2_, h3_, h4_, h5_, h6_, h7_, h8_, h9_, h10_, h11_, h12_, h13_⟩
   (try dsimp only at h0_ h1_ h2_ h3_ h4_ h5_ h6_ h7_ h8_ h9_ h10_ h11_ h12_ h13_)
   have n0_ := aM h0_
   have n1_ := aM h1_
   have n2_ := aM h2_
   have n3_ := aM h3_
   have n4_ := aM h4_
   have n5_ := aM h5_
   have n6_ := aM h6_
   have n7_ := aM h7_
   have n8_ := aM h8_
   have n9_ := aM h9_
   have n10_ := aM h10_
   have n11_ := aM h11_
   have n12_ := aM h12_
   have n13_ := aM h13_
   clear BK218 BK219 HB h0_ h1_ h2_ h3_ h4_ h5_ h6_ h7_ h8_ h9_ h10_ h11_ h12_ h13_
   have HO224 := n0_
   have HO227 := n1_
   have HO232 := n2_
   have HO235 := n3_
   have BK218 := n4_
   have BK219 := n5_
   have BK237 := n6_
   have GW237 := n7_
   have GE237 := n8_
   have NB218_237 := n9_
   have NB237_218 := n10_
   have NB219_237 := n11_
   have NB237_219 := n12_
   have HB := n13_
   clear n0_ n1_ n2_ n3_ n4_ n5_ n6_ n7_ n8_ n9_ n10_ n11_ n12_ n13_
   have hHeld : w40.cell? ⟨gb218, 0, none⟩ = some (.slice A0_0 l0_0.length c0_0) ∧ w40.cell? ⟨gb218, 1, none⟩ = some (.slice A0_1 l0_1.length c0_1) ∧ w40.cell? ⟨gb219, 0, none⟩ = some (.int .i64 a1_0) ∧ w40.cell? ⟨gb219, 1, none⟩ = some (.string a1_1) := hS_
   obtain ⟨Ao41, co41, eo41⟩ := Kd.R_slice HO232.out
   (first | subst eo41 | obtain ⟨rfl, rfl⟩ := eI eo41)
   obtain ⟨Ao43, co43, eo43⟩ := Kd.R_slice HO235.out
   (first | subst eo43 | obtain ⟨rfl, rfl⟩ := eI eo43)
   refine norm_ (a' := ?_) ?_ ?_
   rotate_left
   ·simp only [putAll, Act.put, qA, qB, qC]
    rfl
   refine one_ (i := 9) (N := none) #[tT,tT,tT,tT,tT,tT,tT,tT,tT,tT,fF] rfl rfl (one_of HT_.out (by kernel_rfl)) (by decide) (fun K hK => ?_)
   have hs42 : w40.cell? ⟨gb237, 0, none⟩ = some (.slice none 0 0) := yc BK237.out 0
   have hfs42 := yZ BK237.out 0
   have hns42_0 := NB218_237.out
   have hns42_1 := NB219_237.out
   have hms42_0 := NB237_218.out
   have hms42_1 := NB237_219.out
   have hs44 : w40.cell? ⟨gb237, 1, none⟩ = some (.slice none 0 0) := yc BK237.out 1
   have hfs44 := yZ BK237.out 1
   have hns44_0 := NB218_237.out
   have hns44_1 := NB219_237.out
   have hms44_0 := NB237_218.out
   have hms44_1 := NB237_219.out
   refine skip_ (w1 := ?_) (by rfl) rfl ?_ ?_
   rotate_left
   ·go_simp
    rfl
   refine hK.out _ _ ⟨((cell_far (p := ⟨gb237, _, none⟩) NB218_237.out _).trans (((cell_far (p := ⟨gb237, _, none⟩) NB218_237.out _).trans (hHeld.1)))), ((cell_far (p := ⟨gb237, _, none⟩) NB218_237.out _).trans (((cell_far (p := ⟨gb237, _, none⟩) NB218_237.out _).trans (hHeld.2.1)))), ((cell_far (p := ⟨gb237, _, none⟩) NB219_237.out _).trans (((cell_far (p := ⟨gb237, _, none⟩) NB219_237.out _).trans (hHeld.2.2.1)))), ((cell_far (p := ⟨gb237, _, none⟩) NB219_237.out _).trans (((cell_far (p := ⟨gb237, _, none⟩) NB219_237.out _).trans (hHeld.2.2.2))))⟩ (fun hHeld => ?_)
   clear hK K
   refine pure_ (i := 10) (N := some 7) (v := ?_) (a' := ?_) #[tT,tT,tT,tT,tT,tT,tT,tT,tT,tT,tT] rfl rfl (any_of HT_.out (by kernel_rfl)) (fun _ _ _ h => h) (Or.inl ⟨by rfl, ?_⟩) ?_ ?_
   rotate_left
   ·intro w'
    go_simp
    with_reducible rfl
   rotate_left
   ·simp only [Act.put, qA, qB, qC, i64_w, i32_w]
    rfl
   refine done_ (done_of HT_.out (by kernel_rfl)) ?_
   have hnb45 := NB218_237.out
   have hnc45 := NB237_218.out
   have hcz46_0 : w40.cell? ⟨gb218, 0, none⟩ = some (.slice A0_0 l0_0.length c0_0) := yc BK218.out 0
   have hcz46_1 : w40.cell? ⟨gb218, 1, none⟩ = some (.slice A0_1 l0_1.length c0_1) := yc BK218.out 1
   have hfz46_0 := yZ BK218.out 0
   have hfz46_1 := yZ BK218.out 1
   try go_wp2_with (first | ((with_reducible refine gate_callee (f := 15) rfl ?_); refine goesL_ (some 35) rfl rfl Try.func15 (by kernel_rfl) rfl #[.agg #[.slice A0_0 l0_0.length c0_0, .slice A0_1 l0_1.length c0_1]] rfl (by (try simp only [List.map_toArray, List.map_cons, List.map_nil]); first | done | rfl | (simp only [List.length_drop, List.length_take]; rfl)) ?_; (with_reducible refine (laws_toDevice.calls k _ _ l0_0 _ _ l0_1 t238 t241 _ ?side1 ?side2 ?side3 ?side4 A22.out).mono ?_); (case side1 => exact cB HR0_0.out (zH HB.out)); (case side2 => exact HC0_0.out); (case side3 => exact cB HR0_1.out (zH HB.out)); (case side4 => exact HC0_1.out); rintro e w47 ⟨v239, v242, rfl, ho0, ho1, hb⟩; refine ⟨_, rfl, ?_⟩; have HO240 := aM (xL (Kd.R_new' (Kd.R_new' ho0 (Kd.R_lt (xH ((x2 HO224.out BK237.out (by decide) (.slice Ao41 t230.length co41) (.slice Ao43 t233.length co43)))))) (Kd.R_lt (xH ((x2 HO232.out BK237.out (by decide) (.slice Ao41 t230.length co41) (.slice Ao43 t233.length co43)))))) (zZ (zH HB.out))); replace HO224 := aM (Kd.R_elder' (xH ((x2 HO224.out BK237.out (by decide) (.slice Ao41 t230.length co41) (.slice Ao43 t233.length co43)))) (Kd.R_base ho0) hb); replace HO232 := aM (Kd.R_elder' (xH ((x2 HO232.out BK237.out (by decide) (.slice Ao41 t230.length co41) (.slice Ao43 t233.length co43)))) (Kd.R_base ho0) hb); have HO243 := aM (xL (Kd.R_new' (Kd.R_new' ho1 (Kd.R_lt (xH ((x2 HO227.out BK237.out (by decide) (.slice Ao41 t230.length co41) (.slice Ao43 t233.length co43)))))) (Kd.R_lt (xH ((x2 HO235.out BK237.out (by decide) (.slice Ao41 t230.length co41) (.slice Ao43 t233.length co43)))))) (zZ (zH HB.out))); replace HO227 := aM (Kd.R_elder' (xH ((x2 HO227.out BK237.out (by decide) (.slice Ao41 t230.length co41) (.slice Ao43 t233.length co43)))) (Kd.R_base ho1) hb); replace HO235 := aM (Kd.R_elder' (xH ((x2 HO235.out BK237.out (by decide) (.slice Ao41 t230.length co41) (.slice Ao43 t233.length co43)))) (Kd.R_base ho1) hb); replace BK218 := aM (yB (g := gb218) (o := .cells #[.slice A0_0 l0_0.length c0_0, .slice A0_1 l0_1.length c0_1] 25 (0, 0)) (by (with_reducible repeat (first | refine yN ?_ _ | refine yD ?_ | refine yA ?_ _)); refine yF ?_ NB218_237.out _; (with_reducible repeat (first | refine yN ?_ _ | refine yD ?_ | refine yA ?_ _)); refine yF ?_ NB218_237.out _; (with_reducible repeat (first | refine yN ?_ _ | refine yD ?_ | refine yA ?_ _)); exact BK218.out) hb); replace BK219 := aM (yB (g := gb219) (o := .cells #[.int .i64 a1_0, .string a1_1] 38 (0, 0)) (by (with_reducible repeat (first | refine yN ?_ _ | refine yD ?_ | refine yA ?_ _)); refine yF ?_ NB219_237.out _; (with_reducible repeat (first | refine yN ?_ _ | refine yD ?_ | refine yA ?_ _)); refine yF ?_ NB219_237.out _; (with_reducible repeat (first | refine yN ?_ _ | refine yD ?_ | refine yA ?_ _)); exact BK219.out) hb); replace BK237 := aM (yB (g := gb237) (o := .cells #[.slice Ao41 t230.length co41, .slice Ao43 t233.length co43] 30 (0, 0)) (by (with_reducible repeat (first | refine yN ?_ _ | refine yD ?_ | refine yA ?_ _)); refine yP (cs := #[.slice Ao41 t230.length co41, .slice none 0 0]) ?_ 1 _ rfl; (with_reducible repeat (first | refine yN ?_ _ | refine yD ?_ | refine yA ?_ _)); refine yP (cs := #[.slice none 0 0, .slice none 0 0]) ?_ 0 _ rfl; (with_reducible repeat (first | refine yN ?_ _ | refine yD ?_ | refine yA ?_ _)); exact BK237.out) hb); replace HB := aM (zT (zH HB.out) hb); (try clear hb); (try clear ho0); (try clear ho1)) | ((with_reducible refine gate_dst (N := 8) rfl ?_); refine box_event ?hg (N := 8) ?hd (cs := #[.slice none 0 0, .slice none 0 0]) (t := 30) ?hr ?_; (case hd => rfl); (case hg => rfl); (case hr => first | (go_simp; done) | (go_simp; rfl)); intro gb244 hg w48 hbox hb; replace HO224 := xK HO224.out hb; replace HO227 := xK HO227.out hb; replace HO232 := xK HO232.out hb; replace HO235 := xK HO235.out hb; replace HO240 := xK HO240.out hb; replace HO243 := xK HO243.out hb; have BK244 := aM (hbox); have GW244 := aM ((by rw [hg]; exact (zZ (zH HB.out)) : w.heap.size ≤ gb244)); have GE244 := aM ((by rw [hg]; exact (zZ (zH HB.out)) : w.heap.size ≤ gb244)); replace HB := aM (zT (zH HB.out) hb); have NB218_244 := nL BK218.out hg; have NB244_218 := nR BK218.out hg; replace BK218 := yK BK218.out hb; have NB219_244 := nL BK219.out hg; have NB244_219 := nR BK219.out hg; replace BK219 := yK BK219.out hb; have NB237_244 := nL BK237.out hg; have NB244_237 := nR BK237.out hg; replace BK237 := yK BK237.out hb; clear hb hbox hg; obtain ⟨Ao49, co49, eo49⟩ := Kd.R_slice HO240.out; subst eo49; have hnb50 := NB244_218.out; have hnc50 := NB218_244.out; have hnb51 := NB244_219.out; have hnc51 := NB219_244.out; have hnb52 := NB244_237.out; have hnc52 := NB237_244.out; have hcz53_0 : w48.cell? ⟨gb244, 0, none⟩ = some (.slice none 0 0) := yc BK244.out 0; have hcz53_1 : w48.cell? ⟨gb244, 1, none⟩ = some (.slice none 0 0) := yc BK244.out 1; have hfz53_0 := yZ BK244.out 0; have hfz53_1 := yZ BK244.out 1; obtain ⟨Ao54, co54, eo54⟩ := Kd.R_slice HO243.out; subst eo54))
   have n0_ : Aside0 (Kd.R Kd.string 9 ((w48.setCell ⟨gb244, 0, none⟩ (.slice Ao49 t238.length co49)).setCell ⟨gb244, 1, none⟩ (.slice Ao54 t241.length co54)) w.heap.size (fun k_ => some k_ ≠ oB Ao41 t230.length co41 ∧ some k_ ≠ oB Ao49 t238.length co49) v223 t222) := ⟨xH (xM (xF (p := ⟨gb244, 1, none⟩) (xF (p := ⟨gb244, 0, none⟩) (xT HO224.out BK244.out (by decide)) (fun _ hk => hk.2) (.slice Ao49 t238.length co49)) (fun _ hk => hk.2) (.slice Ao54 t241.length co54)) (fun _ hk => ⟨hk.1.1, hk.1.2⟩))⟩
   have n1_ : Aside0 (Kd.R k42 42 ((w48.setCell ⟨gb244, 0, none⟩ (.slice Ao49 t238.length co49)).setCell ⟨gb244, 1, none⟩ (.slice Ao54 t241.length co54)) w.heap.size (fun k_ => some k_ ≠ oB Ao43 t233.length co43 ∧ some k_ ≠ oB Ao54 t241.length co54) v226 t225) := ⟨xH (xM (xF (p := ⟨gb244, 1, none⟩) (xF (p := ⟨gb244, 0, none⟩) (xT HO227.out BK244.out (by decide)) (fun _ hk => hk.2) (.slice Ao49 t238.length co49)) (fun _ hk => hk.2) (.slice Ao54 t241.length co54)) (fun _ hk => ⟨hk.1.1, hk.1.2⟩))⟩
   have n2_ : Aside0 (Kd.R Kd.string 9 ((w48.setCell ⟨gb244, 0, none⟩ (.slice Ao49 t238.length co49)).setCell ⟨gb244, 1, none⟩ (.slice Ao54 t241.length co54)) w.heap.size (fun k_ => some k_ ≠ (v223 : Value).ownBlock ∧ some k_ ≠ oB Ao49 t238.length co49) (.slice Ao41 t230.length co41) t230) := ⟨xH (xM (xF (p := ⟨gb244, 1, none⟩) (xF (p := ⟨gb244, 0, none⟩) (xT HO232.out BK244.out (by decide)) (fun _ hk => hk.2) (.slice Ao49 t238.length co49)) (fun _ hk => hk.2) (.slice Ao54 t241.length co54)) (fun _ hk => ⟨hk.1.1, hk.1.2⟩))⟩
   have n3_ : Aside0 (Kd.R k42 42 ((w48.setCell ⟨gb244, 0, none⟩ (.slice Ao49 t238.length co49)).setCell ⟨gb244, 1, none⟩ (.slice Ao54 t241.length co54)) w.heap.size (fun k_ => some k_ ≠ (v226 : Value).ownBlock ∧ some k_ ≠ oB Ao54 t241.length co54) (.slice Ao43 t233.length co43) t233) := ⟨xH (xM (xF (p := ⟨gb244, 1, none⟩) (xF (p := ⟨gb244, 0, none⟩) (xT HO235.out BK244.out (by decide)) (fun _ hk => hk.2) (.slice Ao49 t238.length co49)) (fun _ hk => hk.2) (.slice Ao54 t241.length co54)) (fun _ hk => ⟨hk.1.1, hk.1.2⟩))⟩
   have n4_ : Aside0 (Kd.R Kd.string 9 ((w48.setCell ⟨gb244, 0, none⟩ (.slice Ao49 t238.length co49)).setCell ⟨gb244, 1, none⟩ (.slice Ao54 t241.length co54)) w.heap.size (fun k_ => some k_ ≠ (v223 : Value).ownBlock ∧ some k_ ≠ oB Ao41 t230.length co41) (.slice Ao49 t238.length co49) t238) := ⟨xH (xM (xF (p := ⟨gb244, 1, none⟩) (xF (p := ⟨gb244, 0, none⟩) (xT HO240.out BK244.out (by decide)) (fun _ hk => hk.2) (.slice Ao49 t238.length co49)) (fun _ hk => hk.2) (.slice Ao54 t241.length co54)) (fun _ hk => ⟨hk.1.1.2, hk.1.2⟩))⟩
   have n5_ : Aside0 (Kd.R k42 42 ((w48.setCell ⟨gb244, 0, none⟩ (.slice Ao49 t238.length co49)).setCell ⟨gb244, 1, none⟩ (.slice Ao54 t241.length co54)) w.heap.size (fun k_ => some k_ ≠ (v226 : Value).ownBlock ∧ some k_ ≠ oB Ao43 t233.length co43) (.slice Ao54 t241.length co54) t241) := ⟨xH (xM (xF (p := ⟨gb244, 1, none⟩) (xF (p := ⟨gb244, 0, none⟩) (xT HO243.out BK244.out (by decide)) (fun _ hk => hk.2) (.slice Ao49 t238.length co49)) (fun _ hk => hk.2) (.slice Ao54 t241.length co54)) (fun _ hk => ⟨hk.1.1.2, hk.1.2⟩))⟩
   have n6_ : Aside0 (((w48.setCell ⟨gb244, 0, none⟩ (.slice Ao49 t238.length co49)).setCell ⟨gb244, 1, none⟩ (.slice Ao54 t241.length co54)).heap[gb218]? = some (.cells #[.slice A0_0 l0_0.length c0_0, .slice A0_1 l0_1.length c0_1] 25 (0, 0))) := ⟨by (with_reducible repeat (first | refine yN ?_ _ | refine yD ?_ | refine yA ?_ _)); refine yF ?_ NB218_244.out _; (with_reducible repeat (first | refine yN ?_ _ | refine yD ?_ | refine yA ?_ _)); refine yF ?_ NB218_244.out _; (with_reducible repeat (first | refine yN ?_ _ | refine yD ?_ | refine yA ?_ _)); exact BK218.out⟩
   have n7_ : Aside0 (((w48.setCell ⟨gb244, 0, none⟩ (.slice Ao49 t238.length co49)).setCell ⟨gb244, 1, none⟩ (.slice Ao54 t241.length co54)).heap[gb219]? = some (.cells #[.int .i64 a1_0, .string a1_1] 38 (0, 0))) := ⟨by (with_reducible repeat (first | refine yN ?_ _ | refine yD ?_ | refine yA ?_ _)); refine yF ?_ NB219_244.out _; (with_reducible repeat (first | refine yN ?_ _ | refine yD ?_ | refine yA ?_ _)); refine yF ?_ NB219_244.out _; (with_reducible repeat (first | refine yN ?_ _ | refine yD ?_ | refine yA ?_ _)); exact BK219.out⟩
   have n8_ : Aside0 (((w48.setCell ⟨gb244, 0, none⟩ (.slice Ao49 t238.length co49)).setCell ⟨gb244, 1, none⟩ (.slice Ao54 t241.length co54)).heap[gb237]? = some (.cells #[.slice Ao41 t230.length co41, .slice Ao43 t233.length co43] 30 (0, 0))) := ⟨by (with_reducible repeat (first | refine yN ?_ _ | refine yD ?_ | refine yA ?_ _)); refine yF ?_ NB237_244.out _; (with_reducible repeat (first | refine yN ?_ _ | refine yD ?_ | refine yA ?_ _)); refine yF ?_ NB237_244.out _; (with_reducible repeat (first | refine yN ?_ _ | refine yD ?_ | refine yA ?_ _)); exact BK237.out⟩
   have n9_ : Aside0 (((w48.setCell ⟨gb244, 0, none⟩ (.slice Ao49 t238.length co49)).setCell ⟨gb244, 1, none⟩ (.slice Ao54 t241.length co54)).heap[gb244]? = some (.cells #[.slice Ao49 t238.length co49, .slice Ao54 t241.length co54] 30 (0, 0))) := ⟨by (with_reducible repeat (first | refine yN ?_ _ | refine yD ?_ | refine yA ?_ _)); refine yP (cs := #[.slice Ao49 t238.length co49, .slice none 0 0]) ?_ 1 _ rfl; (with_reducible repeat (first | refine yN ?_ _ | refine yD ?_ | refine yA ?_ _)); refine yP (cs := #[.slice none 0 0, .slice none 0 0]) ?_ 0 _ rfl; (with_reducible repeat (first | refine yN ?_ _ | refine yD ?_ | refine yA ?_ _)); exact BK244.out⟩
   have n10_ : Aside0 (Below w.heap.size w ((w48.setCell ⟨gb244, 0, none⟩ (.slice Ao49 t238.length co49)).setCell ⟨gb244, 1, none⟩ (.slice Ao54 t241.length co54))) := ⟨zH HB.out⟩
   (try clear HO224); (try clear HO227); (try clear HO232); (try clear HO235); (try clear HO240); (try clear HO243); (try clear BK218); (try clear BK219); (try clear BK237); (try clear BK244); (try clear HB)
   generalize ((w48.setCell ⟨gb244, 0, none⟩ (.slice Ao49 t238.length co49)).setCell ⟨gb244, 1, none⟩ (.slice Ao54 t241.length co54)) = w55 at n0_ n1_ n2_ n3_ n4_ n5_ n6_ n7_ n8_ n9_ n10_ ⊢
   have HO224 := n0_
   have HO227 := n1_
   have HO232 := n2_
   have HO235 := n3_
   have HO240 := n4_
   have HO243 := n5_
   have BK218 := n6_
   have BK219 := n7_
   have BK237 := n8_
   have BK244 := n9_
   have HB := n10_
   clear n0_ n1_ n2_ n3_ n4_ n5_ n6_ n7_ n8_ n9_ n10_
   replace HO224 := aM (xD HO224.out)
   replace HO227 := aM (xD HO227.out)
   replace HO232 := aM (xD HO232.out)
   replace HO235 := aM (xD HO235.out)
   replace HO240 := aM (xD HO240.out)
   replace HO243 := aM (xD HO243.out)
   replace BK218 := aM (yD BK218.out)
   replace BK219 := aM (yD BK219.out)
   replace BK237 := aM (yD BK237.out)
   replace BK244 := aM (yD BK244.out)
   replace HB := aM (zD HB.out)
   refine start_ (n := 10) (S := fun w' => w'.cell? ⟨gb244, 0, none⟩ = some (.slice Ao49 t238.length co49) ∧ w'.cell? ⟨gb244, 1, none⟩ = some (.slice Ao54 t241.length co54) ∧ w'.cell? ⟨gb219, 0, none⟩ = some (.int .i64 a1_0) ∧ w'.cell? ⟨gb219, 1, none⟩ = some (.string a1_1)) (ds := []) #[fF,fF,fF,fF,fF,fF,fF,fF,fF,fF] (by kernel_rfl) rfl rfl ⟨yc BK244.out 0, yc BK244.out 1, yc BK219.out 0, yc BK219.out 1⟩ (fun hHeld => ?_); refine with_tabW laws_FnExactWriteSector.tab10 laws_FnExactWriteSector.bits10 (fun HT_ HW_ => ?_)
   generalize w55.drew = w56 at HO224 HO227 HO232 HO235 HO240 HO243 BK218 BK219 BK237 BK244 HB hHeld ⊢
   refine take_ (i := 0) (N := some 37) (v := ?_) (a' := ?_) #[tT,fF,fF,fF,fF,fF,fF,fF,fF,fF] rfl rfl (take_ofW HT_.out HW_.out (by kernel_rfl)) (fun _ _ _ h => h) (Or.inl ⟨by rfl, ?_⟩) hHeld ?_ ?_
   rotate_left
   ·rintro w' ⟨s0, s1, s2, s3⟩
    go_simp
    with_reducible rfl
   rotate_left
   ·simp only [Act.put, qA, qB, qC, i64_w, i32_w]
    rfl
   refine take_ (i := 1) (N := some 38) (v := ?_) (a' := ?_) #[tT,tT,fF,fF,fF,fF,fF,fF,fF,fF] rfl rfl (take_ofW HT_.out HW_.out (by kernel_rfl)) (fun _ _ _ h => h) (Or.inl ⟨by rfl, ?_⟩) hHeld ?_ ?_
   rotate_left
   ·rintro w' ⟨s0, s1, s2, s3⟩
    go_simp
    with_reducible rfl
   rotate_left
   ·simp only [Act.put, qA, qB, qC, i64_w, i32_w]
    rfl
   refine join_ (σ := Value × Value × Nat) 2 #[tT,tT,tT,tT,tT,tT,tT,tT,fF,fF] (fun s_ => [(39, .agg #[.int .i64 t245, .string t246]), (40, .tuple #[.agg #[s_.1, s_.2.1], .bool t253]), (9, .pointer (some ⟨s_.2.2, 0, none⟩)), (36, .tuple #[.agg #[s_.1, s_.2.1], .bool t253]), (41, .agg #[s_.1, s_.2.1]), (42, .bool t253)]) (fun s_ w' => (w'.cell? ⟨gb244, 0, none⟩ = some (.slice Ao49 t238.length co49) ∧ w'.cell? ⟨gb244, 1, none⟩ = some (.slice Ao54 t241.length co54) ∧ w'.cell? ⟨gb219, 0, none⟩ = some (.int .i64 a1_0) ∧ w'.cell? ⟨gb219, 1, none⟩ = some (.string a1_1)) ∧ (Kd.R Kd.string 9 w' w.heap.size (fun k_ => some k_ ≠ oB Ao41 t230.length co41 ∧ some k_ ≠ oB Ao49 t238.length co49 ∧ some k_ ≠ (s_.1 : Value).ownBlock) v223 t222) ∧ (Kd.R k42 42 w' w.heap.size (fun k_ => some k_ ≠ oB Ao43 t233.length co43 ∧ some k_ ≠ oB Ao54 t241.length co54 ∧ some k_ ≠ (s_.2.1 : Value).ownBlock) v226 t225) ∧ (Kd.R Kd.string 9 w' w.heap.size (fun k_ => some k_ ≠ (v223 : Value).ownBlock ∧ some k_ ≠ oB Ao49 t238.length co49 ∧ some k_ ≠ (s_.1 : Value).ownBlock) (.slice Ao41 t230.length co41) t230) ∧ (Kd.R k42 42 w' w.heap.size (fun k_ => some k_ ≠ (v226 : Value).ownBlock ∧ some k_ ≠ oB Ao54 t241.length co54 ∧ some k_ ≠ (s_.2.1 : Value).ownBlock) (.slice Ao43 t233.length co43) t233) ∧ (Kd.R Kd.string 9 w' w.heap.size (fun k_ => some k_ ≠ (v223 : Value).ownBlock ∧ some k_ ≠ oB Ao41 t230.length co41 ∧ some k_ ≠ (s_.1 : Value).ownBlock) (.slice Ao49 t238.length co49) t238) ∧ (Kd.R k42 42 w' w.heap.size (fun k_ => some k_ ≠ (v226 : Value).ownBlock ∧ some k_ ≠ oB Ao43 t233.length co43 ∧ some k_ ≠ (s_.2.1 : Value).ownBlock) (.slice Ao54 t241.length co54) t241) ∧ (Kd.R Kd.string 9 w' w.heap.size (fun k_ => some k_ ≠ (v223 : Value).ownBlock ∧ some k_ ≠ oB Ao41 t230.length co41 ∧ some k_ ≠ oB Ao49 t238.length co49) s_.1 t247) ∧ (Kd.R k42 42 w' w.heap.size (fun k_ => some k_ ≠ (v226 : Value).ownBlock ∧ some k_ ≠ oB Ao43 t233.length co43 ∧ some k_ ≠ oB Ao54 t241.length co54) s_.2.1 t250) ∧ (w'.heap[gb218]? = some (.cells #[.slice A0_0 l0_0.length c0_0, .slice A0_1 l0_1.length c0_1] 25 (0, 0))) ∧ (w'.heap[gb219]? = some (.cells #[.int .i64 a1_0, .string a1_1] 38 (0, 0))) ∧ (w'.heap[gb237]? = some (.cells #[.slice Ao41 t230.length co41, .slice Ao43 t233.length co43] 30 (0, 0))) ∧ (w'.heap[gb244]? = some (.cells #[.slice Ao49 t238.length co49, .slice Ao54 t241.length co54] 30 (0, 0))) ∧ (w'.heap[s_.2.2]? = some (.cells #[.slice none 0 0, .slice none 0 0] 30 (0, 0))) ∧ (w.heap.size ≤ s_.2.2) ∧ (w.heap.size ≤ s_.2.2) ∧ (gb218 ≠ s_.2.2) ∧ (s_.2.2 ≠ gb218) ∧ (gb219 ≠ s_.2.2) ∧ (s_.2.2 ≠ gb219) ∧ (gb237 ≠ s_.2.2) ∧ (s_.2.2 ≠ gb237) ∧ (gb244 ≠ s_.2.2) ∧ (s_.2.2 ≠ gb244) ∧ (Below w.heap.size w w')) ?_ ?_
   rotate_left
   ·intro hCont
    refine two_ (i := 2) (j := 7) (Ni := some 39) (Nj := some 9) #[tT,tT,tT,fF,fF,fF,fF,fF,fF,fF] #[tT,tT,fF,fF,fF,fF,fF,tT,fF,fF] rfl rfl rfl rfl (two_of HT_.out (by kernel_rfl)) (by decide) (by decide) (fun K hK => ?_) (fun K hK => ?_)
    ·skip
     refine gS Try.func24 (by kernel_rfl) rfl #[.agg #[.int .i64 a1_0, .string a1_1]] (by rfl) rfl rfl ?_
     with_reducible refine (laws_toWrite.calls a1_0 a1_1 t245 t246 _ A23.out).mono ?_
     rintro e w57 ⟨rfl, hb⟩
     refine ⟨_, rfl, ?_⟩
     replace HO224 := xK HO224.out hb
     replace HO227 := xK HO227.out hb
     replace HO232 := xK HO232.out hb
     replace HO235 := xK HO235.out hb
     replace HO240 := xK HO240.out hb
     replace HO243 := xK HO243.out hb
     replace BK218 := yK BK218.out hb
     replace BK219 := yK BK219.out hb
     replace BK237 := yK BK237.out hb
     replace BK244 := yK BK244.out hb
     replace HB := aM (zT (zH HB.out) hb)
     (try clear hb)
     refine hK.out _ _ ⟨yc BK244.out 0, yc BK244.out 1, yc BK219.out 0, yc BK219.out 1⟩ (fun hHeld => ?_)
     clear hK K
     refine norm_ (a' := ?_) ?_ ?_
     rotate_left
     ·show Act.put _ (some 39) _ = _
      simp only [Act.put, qA, qB, qC, i64_w, i32_w]
      rfl
     refine two_ (i := 3) (j := 7) (Ni := some 40) (Nj := some 9) #[tT,tT,tT,tT,fF,fF,fF,fF,fF,fF] #[tT,tT,tT,fF,fF,fF,fF,tT,fF,fF] rfl rfl rfl rfl (two_of HT_.out (by kernel_rfl)) (by decide) (by decide) (fun K hK => ?_) (fun K hK => ?_)
     ·skip
      refine gS Try.func25 (by kernel_rfl) rfl #[.agg #[.slice Ao49 t238.length co49, .slice Ao54 t241.length co54], .agg #[.int .i64 t245, .string t246]] (by rfl) rfl rfl ?_
      with_reducible refine (impl_WriteSector.calls _ _ t238 _ _ t241 t245 t246 t247 t250 t253 _ ?side1 ?side2 ?side3 ?side4 A24.out).mono ?_
      (case side1 => repeat (first | exact (Kd.R_reads' HO240.out).2.2 | (with_reducible refine cA ?_ _) | (with_reducible refine cN ?_ _) | (with_reducible refine cD ?_)))
      (case side2 => exact (Kd.R_reads' HO240.out).2.1)
      (case side3 => repeat (first | exact (Kd.R_reads' HO243.out).2.2 | (with_reducible refine cA ?_ _) | (with_reducible refine cN ?_ _) | (with_reducible refine cD ?_)))
      (case side4 => exact (Kd.R_reads' HO243.out).2.1)
      rintro e w58 ⟨v248, v251, rfl, ho0, ho1, hb⟩
      refine ⟨_, rfl, ?_⟩
      have HO249 := aM (xL (Kd.R_new' (Kd.R_new' (Kd.R_new' ho0 (Kd.R_lt (xH HO224.out))) (Kd.R_lt (xH HO232.out))) (Kd.R_lt (xH HO240.out))) (zZ (zH HB.out)))
      replace HO224 := aM (Kd.R_elder' (xH HO224.out) (Kd.R_base ho0) hb)
      replace HO232 := aM (Kd.R_elder' (xH HO232.out) (Kd.R_base ho0) hb)
      replace HO240 := aM (Kd.R_elder' (xH HO240.out) (Kd.R_base ho0) hb)
      have HO252 := aM (xL (Kd.R_new' (Kd.R_new' (Kd.R_new' ho1 (Kd.R_lt (xH HO227.out))) (Kd.R_lt (xH HO235.out))) (Kd.R_lt (xH HO243.out))) (zZ (zH HB.out)))
      replace HO227 := aM (Kd.R_elder' (xH HO227.out) (Kd.R_base ho1) hb)
      replace HO235 := aM (Kd.R_elder' (xH HO235.out) (Kd.R_base ho1) hb)
      replace HO243 := aM (Kd.R_elder' (xH HO243.out) (Kd.R_base ho1) hb)
      replace BK218 := yK BK218.out hb
      replace BK219 := yK BK219.out hb
      replace BK237 := yK BK237.out hb
      replace BK244 := yK BK244.out hb
      replace HB := aM (zT (zH HB.out) hb)
      (try clear hb); (try clear ho0); (try clear ho1)
      refine hK.out _ _ ⟨yc BK244.out 0, yc BK244.out 1, yc BK219.out 0, yc BK219.out 1⟩ (fun hHeld => ?_)
      clear hK K
      refine norm_ (a' := ?_) ?_ ?_
      rotate_left
      ·show Act.put _ (some 40) _ = _
       simp only [Act.put, qA, qB, qC, i64_w, i32_w]
       rfl
      refine pure_ (i := 4) (N := some 36) (v := ?_) (a' := ?_) #[tT,tT,tT,tT,tT,fF,fF,fF,fF,fF] rfl rfl (any_of HT_.out (by kernel_rfl)) (fun _ _ _ h => h) (Or.inl ⟨by rfl, ?_⟩) ?_ ?_
      rotate_left
      ·intro w'
       go_simp
       with_reducible rfl
      rotate_left
      ·simp only [Act.put, qA, qB, qC, i64_w, i32_w]
       rfl
      refine pure_ (i := 5) (N := some 41) (v := ?_) (a' := ?_) #[tT,tT,tT,tT,tT,tT,fF,fF,fF,fF] rfl rfl (any_of HT_.out (by kernel_rfl)) (fun _ _ _ h => h) (Or.inl ⟨by rfl, ?_⟩) ?_ ?_
      rotate_left
      ·intro w'
       go_simp
       with_reducible rfl
      rotate_left
      ·simp only [Act.put, qA, qB, qC, i64_w, i32_w]
       rfl
      refine pure_ (i := 6) (N := some 42) (v := ?_) (a' := ?_) #[tT,tT,tT,tT,tT,tT,tT,fF,fF,fF] rfl rfl (any_of HT_.out (by kernel_rfl)) (fun _ _ _ h => h) (Or.inl ⟨by rfl, ?_⟩) ?_ ?_
      rotate_left
      ·intro w'
       go_simp
       with_reducible rfl
      rotate_left
      ·simp only [Act.put, qA, qB, qC, i64_w, i32_w]
       rfl
      refine one_ (i := 7) (N := some 9) #[tT,tT,tT,tT,tT,tT,tT,tT,fF,fF] rfl rfl (one_of HT_.out (by kernel_rfl)) (by decide) (fun K hK => ?_)
      refine box_step ?hg (N := 9) ?hd (cs := #[.slice none 0 0, .slice none 0 0]) (t := 30) ?hr ?_; (case hd => rfl); (case hg => rfl); (case hr => first | (go_simp; done) | (go_simp; rfl))
      intro gb254 hg w59 hbox hb
      replace HO224 := xK HO224.out hb
      replace HO227 := xK HO227.out hb
      replace HO232 := xK HO232.out hb
      replace HO235 := xK HO235.out hb
      replace HO240 := xK HO240.out hb
      replace HO243 := xK HO243.out hb
      replace HO249 := xK HO249.out hb
      replace HO252 := xK HO252.out hb
      have BK254 := aM (hbox)
      have GW254 := aM ((by rw [hg]; exact (zZ (zH HB.out)) : w.heap.size ≤ gb254))
      have GE254 := aM ((by rw [hg]; exact (zZ (zH HB.out)) : w.heap.size ≤ gb254))
      replace HB := aM (zT (zH HB.out) hb)
      have NB218_254 := nL BK218.out hg
      have NB254_218 := nR BK218.out hg
      replace BK218 := yK BK218.out hb
      have NB219_254 := nL BK219.out hg
      have NB254_219 := nR BK219.out hg
      replace BK219 := yK BK219.out hb
      have NB237_254 := nL BK237.out hg
      have NB254_237 := nR BK237.out hg
      replace BK237 := yK BK237.out hb
      have NB244_254 := nL BK244.out hg
      have NB254_244 := nR BK244.out hg
      replace BK244 := yK BK244.out hb
      clear hb hbox hg
      refine hK.out _ _ ⟨yc BK244.out 0, yc BK244.out 1, yc BK219.out 0, yc BK219.out 1⟩ (fun hHeld => ?_)
      clear hK K
      refine norm_ (a' := ?_) ?_ ?_
      rotate_left
      ·show Act.put _ (some 9) _ = _
       simp only [Act.put, qA, qB, qC, i64_w, i32_w]
       rfl
      exact norm_ (by simp only [putAll, Act.put, qA, qB, qC]) (hCont (v248, v251, gb254) _ ⟨hHeld, (xH (xM HO224.out (fun _ hk => ⟨hk.1.1, ⟨hk.1.2, hk.2⟩⟩))), (xH (xM HO227.out (fun _ hk => ⟨hk.1.1, ⟨hk.1.2, hk.2⟩⟩))), (xH (xM HO232.out (fun _ hk => ⟨hk.1.1, ⟨hk.1.2, hk.2⟩⟩))), (xH (xM HO235.out (fun _ hk => ⟨hk.1.1, ⟨hk.1.2, hk.2⟩⟩))), (xH (xM HO240.out (fun _ hk => ⟨hk.1.1, ⟨hk.1.2, hk.2⟩⟩))), (xH (xM HO243.out (fun _ hk => ⟨hk.1.1, ⟨hk.1.2, hk.2⟩⟩))), (xH (xM HO249.out (fun _ hk => ⟨hk.1.1.2, ⟨hk.1.2, hk.2⟩⟩))), (xH (xM HO252.out (fun _ hk => ⟨hk.1.1.2, ⟨hk.1.2, hk.2⟩⟩))), (yH BK218.out), (yH BK219.out), (yH BK237.out), (yH BK244.out), (yH BK254.out), GW254.out, GE254.out, NB218_254.out, NB254_218.out, NB219_254.out, NB254_219.out, NB237_254.out, NB254_237.out, NB244_254.out, NB254_244.out, (zH HB.out)⟩)
     ·skip
      refine box_step ?hg (N := 9) ?hd (cs := #[.slice none 0 0, .slice none 0 0]) (t := 30) ?hr ?_; (case hd => rfl); (case hg => rfl); (case hr => first | (go_simp; done) | (go_simp; rfl))
      intro gb254 hg w58 hbox hb
      replace HO224 := xK HO224.out hb
      replace HO227 := xK HO227.out hb
      replace HO232 := xK HO232.out hb
      replace HO235 := xK HO235.out hb
      replace HO240 := xK HO240.out hb
      replace HO243 := xK HO243.out hb
      have BK254 := aM (hbox)
      have GW254 := aM ((by rw [hg]; exact (zZ (zH HB.out)) : w.heap.size ≤ gb254))
      have GE254 := aM ((by rw [hg]; exact (zZ (zH HB.out)) : w.heap.size ≤ gb254))
      replace HB := aM (zT (zH HB.out) hb)
      have NB218_254 := nL BK218.out hg
      have NB254_218 := nR BK218.out hg
      replace BK218 := yK BK218.out hb
      have NB219_254 := nL BK219.out hg
      have NB254_219 := nR BK219.out hg
      replace BK219 := yK BK219.out hb
      have NB237_254 := nL BK237.out hg
      have NB254_237 := nR BK237.out hg
      replace BK237 := yK BK237.out hb
      have NB244_254 := nL BK244.out hg
      have NB254_244 := nR BK244.out hg
      replace BK244 := yK BK244.out hb
      clear hb hbox hg
      refine hK.out _ _ ⟨yc BK244.out 0, yc BK244.out 1, yc BK219.out 0, yc BK219.out 1⟩ (fun hHeld => ?_)
      clear hK K
      refine norm_ (a' := ?_) ?_ ?_
      rotate_left
      ·show Act.put _ (some 9) _ = _
       simp only [Act.put, qA, qB, qC, i64_w, i32_w]
       rfl
      refine one_ (i := 3) (N := some 40) #[tT,tT,tT,tT,fF,fF,fF,tT,fF,fF] rfl rfl (one_of HT_.out (by kernel_rfl)) (by decide) (fun K hK => ?_)
      refine gS Try.func25 (by kernel_rfl) rfl #[.agg #[.slice Ao49 t238.length co49, .slice Ao54 t241.length co54], .agg #[.int .i64 t245, .string t246]] (by rfl) rfl rfl ?_
      with_reducible refine (impl_WriteSector.calls _ _ t238 _ _ t241 t245 t246 t247 t250 t253 _ ?side1 ?side2 ?side3 ?side4 A24.out).mono ?_
      (case side1 => repeat (first | exact (Kd.R_reads' HO240.out).2.2 | (with_reducible refine cA ?_ _) | (with_reducible refine cN ?_ _) | (with_reducible refine cD ?_)))
      (case side2 => exact (Kd.R_reads' HO240.out).2.1)
      (case side3 => repeat (first | exact (Kd.R_reads' HO243.out).2.2 | (with_reducible refine cA ?_ _) | (with_reducible refine cN ?_ _) | (with_reducible refine cD ?_)))
      (case side4 => exact (Kd.R_reads' HO243.out).2.1)
      rintro e w59 ⟨v248, v251, rfl, ho0, ho1, hb⟩
      refine ⟨_, rfl, ?_⟩
      have HO249 := aM (xL (Kd.R_new' (Kd.R_new' (Kd.R_new' ho0 (Kd.R_lt (xH HO224.out))) (Kd.R_lt (xH HO232.out))) (Kd.R_lt (xH HO240.out))) (zZ (zH HB.out)))
      replace HO224 := aM (Kd.R_elder' (xH HO224.out) (Kd.R_base ho0) hb)
      replace HO232 := aM (Kd.R_elder' (xH HO232.out) (Kd.R_base ho0) hb)
      replace HO240 := aM (Kd.R_elder' (xH HO240.out) (Kd.R_base ho0) hb)
      have HO252 := aM (xL (Kd.R_new' (Kd.R_new' (Kd.R_new' ho1 (Kd.R_lt (xH HO227.out))) (Kd.R_lt (xH HO235.out))) (Kd.R_lt (xH HO243.out))) (zZ (zH HB.out)))
      replace HO227 := aM (Kd.R_elder' (xH HO227.out) (Kd.R_base ho1) hb)
      replace HO235 := aM (Kd.R_elder' (xH HO235.out) (Kd.R_base ho1) hb)
      replace HO243 := aM (Kd.R_elder' (xH HO243.out) (Kd.R_base ho1) hb)
      replace BK218 := yK BK218.out hb
      replace BK219 := yK BK219.out hb
      replace BK237 := yK BK237.out hb
      replace BK244 := yK BK244.out hb
      replace BK254 := yK BK254.out hb
      replace HB := aM (zT (zH HB.out) hb)
      (try clear hb); (try clear ho0); (try clear ho1)
      refine hK.out _ _ ⟨yc BK244.out 0, yc BK244.out 1, yc BK219.out 0, yc BK219.out 1⟩ (fun hHeld => ?_)
      clear hK K
      refine norm_ (a' := ?_) ?_ ?_
      rotate_left
      ·show Act.put _ (some 40) _ = _
       simp only [Act.put, qA, qB, qC, i64_w, i32_w]
       rfl
      refine pure_ (i := 4) (N := some 36) (v := ?_) (a' := ?_) #[tT,tT,tT,tT,tT,fF,fF,tT,fF,fF] rfl rfl (any_of HT_.out (by kernel_rfl)) (fun _ _ _ h => h) (Or.inl ⟨by rfl, ?_⟩) ?_ ?_
      rotate_left
      ·intro w'
       go_simp
       with_reducible rfl
      rotate_left
      ·simp only [Act.put, qA, qB, qC, i64_w, i32_w]
       rfl
      refine pure_ (i := 5) (N := some 41) (v := ?_) (a' := ?_) #[tT,tT,tT,tT,tT,tT,fF,tT,fF,fF] rfl rfl (any_of HT_.out (by kernel_rfl)) (fun _ _ _ h => h) (Or.inl ⟨by rfl, ?_⟩) ?_ ?_
      rotate_left
      ·intro w'
       go_simp
       with_reducible rfl
      rotate_left
      ·simp only [Act.put, qA, qB, qC, i64_w, i32_w]
       rfl
      refine pure_ (i := 6) (N := some 42) (v := ?_) (a' := ?_) #[tT,tT,tT,tT,tT,tT,tT,tT,fF,fF] rfl rfl (any_of HT_.out (by kernel_rfl)) (fun _ _ _ h => h) (Or.inl ⟨by rfl, ?_⟩) ?_ ?_
      rotate_left
      ·intro w'
       go_simp
       with_reducible rfl
      rotate_left
      ·simp only [Act.put, qA, qB, qC, i64_w, i32_w]
       rfl
      exact norm_ (by simp only [putAll, Act.put, qA, qB, qC]) (hCont (v248, v251, gb254) _ ⟨hHeld, (xH (xM HO224.out (fun _ hk => ⟨hk.1.1, ⟨hk.1.2, hk.2⟩⟩))), (xH (xM HO227.out (fun _ hk => ⟨hk.1.1, ⟨hk.1.2, hk.2⟩⟩))), (xH (xM HO232.out (fun _ hk => ⟨hk.1.1, ⟨hk.1.2, hk.2⟩⟩))), (xH (xM HO235.out (fun _ hk => ⟨hk.1.1, ⟨hk.1.2, hk.2⟩⟩))), (xH (xM HO240.out (fun _ hk => ⟨hk.1.1, ⟨hk.1.2, hk.2⟩⟩))), (xH (xM HO243.out (fun _ hk => ⟨hk.1.1, ⟨hk.1.2, hk.2⟩⟩))), (xH (xM HO249.out (fun _ hk => ⟨hk.1.1.2, ⟨hk.1.2, hk.2⟩⟩))), (xH (xM HO252.out (fun _ hk => ⟨hk.1.1.2, ⟨hk.1.2, hk.2⟩⟩))), (yH BK218.out), (yH BK219.out), (yH BK237.out), (yH BK244.out), (yH BK254.out), GW254.out, GE254.out, NB218_254.out, NB254_218.out, NB219_254.out, NB254_219.out, NB237_254.out, NB254_237.out, NB244_254.out, NB254_244.out, (zH HB.out)⟩)
    ·skip
     refine box_step ?hg (N := 9) ?hd (cs := #[.slice none 0 0, .slice none 0 0]) (t := 30) ?hr ?_; (case hd => rfl); (case hg => rfl); (case hr => first | (go_simp; done) | (go_simp; rfl))
     intro gb254 hg w57 hbox hb
     replace HO224 := xK HO224.out hb
     replace HO227 := xK HO227.out hb
     replace HO232 := xK HO232.out hb
     replace HO235 := xK HO235.out hb
     replace HO240 := xK HO240.out hb
     replace HO243 := xK HO243.out hb
     have BK254 := aM (hbox)
     have GW254 := aM ((by rw [hg]; exact (zZ (zH HB.out)) : w.heap.size ≤ gb254))
     have GE254 := aM ((by rw [hg]; exact (zZ (zH HB.out)) : w.heap.size ≤ gb254))
     replace HB := aM (zT (zH HB.out) hb)
     have NB218_254 := nL BK218.out hg
     have NB254_218 := nR BK218.out hg
     replace BK218 := yK BK218.out hb
     have NB219_254 := nL BK219.out hg
     have NB254_219 := nR BK219.out hg
     replace BK219 := yK BK219.out hb
     have NB237_254 := nL BK237.out hg
     have NB254_237 := nR BK237.out hg
     replace BK237 := yK BK237.out hb
     have NB244_254 := nL BK244.out hg
     have NB254_244 := nR BK244.out hg
     replace BK244 := yK BK244.out hb
     clear hb hbox hg
     refine hK.out _ _ ⟨yc BK244.out 0, yc BK244.out 1, yc BK219.out 0, yc BK219.out 1⟩ (fun hHeld => ?_)
     clear hK K
     refine norm_ (a' := ?_) ?_ ?_
     rotate_left
     ·show Act.put _ (some 9) _ = _
      simp only [Act.put, qA, qB, qC, i64_w, i32_w]
      rfl
     refine one_ (i := 2) (N := some 39) #[tT,tT,tT,fF,fF,fF,fF,tT,fF,fF] rfl rfl (one_of HT_.out (by kernel_rfl)) (by decide) (fun K hK => ?_)
     refine gS Try.func24 (by kernel_rfl) rfl #[.agg #[.int .i64 a1_0, .string a1_1]] (by rfl) rfl rfl ?_
     with_reducible refine (laws_toWrite.calls a1_0 a1_1 t245 t246 _ A23.out).mono ?_
     rintro e w58 ⟨rfl, hb⟩
     refine ⟨_, rfl, ?_⟩
     replace HO224 := xK HO224.out hb
     replace HO227 := xK HO227.out hb
     replace HO232 := xK HO232.out hb
     replace HO235 := xK HO235.out hb
     replace HO240 := xK HO240.out hb
     replace HO243 := xK HO243.out hb
     replace BK218 := yK BK218.out hb
     replace BK219 := yK BK219.out hb
     replace BK237 := yK BK237.out hb
     replace BK244 := yK BK244.out hb
     replace BK254 := yK BK254.out hb
     replace HB := aM (zT (zH HB.out) hb)
     (try clear hb)
     refine hK.out _ _ ⟨yc BK244.out 0, yc BK244.out 1, yc BK219.out 0, yc BK219.out 1⟩ (fun hHeld => ?_)
     clear hK K
     refine norm_ (a' := ?_) ?_ ?_
     rotate_left
     ·show Act.put _ (some 39) _ = _
      simp only [Act.put, qA, qB, qC, i64_w, i32_w]
      rfl
     refine one_ (i := 3) (N := some 40) #[tT,tT,tT,tT,fF,fF,fF,tT,fF,fF] rfl rfl (one_of HT_.out (by kernel_rfl)) (by decide) (fun K hK => ?_)
     refine gS Try.func25 (by kernel_rfl) rfl #[.agg #[.slice Ao49 t238.length co49, .slice Ao54 t241.length co54], .agg #[.int .i64 t245, .string t246]] (by rfl) rfl rfl ?_
     with_reducible refine (impl_WriteSector.calls _ _ t238 _ _ t241 t245 t246 t247 t250 t253 _ ?side1 ?side2 ?side3 ?side4 A24.out).mono ?_
     (case side1 => repeat (first | exact (Kd.R_reads' HO240.out).2.2 | (with_reducible refine cA ?_ _) | (with_reducible refine cN ?_ _) | (with_reducible refine cD ?_)))
     (case side2 => exact (Kd.R_reads' HO240.out).2.1)
     (case side3 => repeat (first | exact (Kd.R_reads' HO243.out).2.2 | (with_reducible refine cA ?_ _) | (with_reducible refine cN ?_ _) | (with_reducible refine cD ?_)))
     (case side4 => exact (Kd.R_reads' HO243.out).2.1)
     rintro e w59 ⟨v248, v251, rfl, ho0, ho1, hb⟩
     refine ⟨_, rfl, ?_⟩
     have HO249 := aM (xL (Kd.R_new' (Kd.R_new' (Kd.R_new' ho0 (Kd.R_lt (xH HO224.out))) (Kd.R_lt (xH HO232.out))) (Kd.R_lt (xH HO240.out))) (zZ (zH HB.out)))
     replace HO224 := aM (Kd.R_elder' (xH HO224.out) (Kd.R_base ho0) hb)
     replace HO232 := aM (Kd.R_elder' (xH HO232.out) (Kd.R_base ho0) hb)
     replace HO240 := aM (Kd.R_elder' (xH HO240.out) (Kd.R_base ho0) hb)
     have HO252 := aM (xL (Kd.R_new' (Kd.R_new' (Kd.R_new' ho1 (Kd.R_lt (xH HO227.out))) (Kd.R_lt (xH HO235.out))) (Kd.R_lt (xH HO243.out))) (zZ (zH HB.out)))
     replace HO227 := aM (Kd.R_elder' (xH HO227.out) (Kd.R_base ho1) hb)
     replace HO235 := aM (Kd.R_elder' (xH HO235.out) (Kd.R_base ho1) hb)
     replace HO243 := aM (Kd.R_elder' (xH HO243.out) (Kd.R_base ho1) hb)
     replace BK218 := yK BK218.out hb
     replace BK219 := yK BK219.out hb
     replace BK237 := yK BK237.out hb
     replace BK244 := yK BK244.out hb
     replace BK254 := yK BK254.out hb
     replace HB := aM (zT (zH HB.out) hb)
     (try clear hb); (try clear ho0); (try clear ho1)
     refine hK.out _ _ ⟨yc BK244.out 0, yc BK244.out 1, yc BK219.out 0, yc BK219.out 1⟩ (fun hHeld => ?_)
     clear hK K
     refine norm_ (a' := ?_) ?_ ?_
     rotate_left
     ·show Act.put _ (some 40) _ = _
      simp only [Act.put, qA, qB, qC, i64_w, i32_w]
      rfl
     refine pure_ (i := 4) (N := some 36) (v := ?_) (a' := ?_) #[tT,tT,tT,tT,tT,fF,fF,tT,fF,fF] rfl rfl (any_of HT_.out (by kernel_rfl)) (fun _ _ _ h => h) (Or.inl ⟨by rfl, ?_⟩) ?_ ?_
     rotate_left
     ·intro w'
      go_simp
      with_reducible rfl
     rotate_left
     ·simp only [Act.put, qA, qB, qC, i64_w, i32_w]
      rfl
     refine pure_ (i := 5) (N := some 41) (v := ?_) (a' := ?_) #[tT,tT,tT,tT,tT,tT,fF,tT,fF,fF] rfl rfl (any_of HT_.out (by kernel_rfl)) (fun _ _ _ h => h) (Or.inl ⟨by rfl, ?_⟩) ?_ ?_
     rotate_left
     ·intro w'
      go_simp
      with_reducible rfl
     rotate_left
     ·simp only [Act.put, qA, qB, qC, i64_w, i32_w]
      rfl
     refine pure_ (i := 6) (N := some 42) (v := ?_) (a' := ?_) #[tT,tT,tT,tT,tT,tT,tT,tT,fF,fF] rfl rfl (any_of HT_.out (by kernel_rfl)) (fun _ _ _ h => h) (Or.inl ⟨by rfl, ?_⟩) ?_ ?_
     rotate_left
     ·intro w'
      go_simp
      with_reducible rfl
     rotate_left
     ·simp only [Act.put, qA, qB, qC, i64_w, i32_w]
      rfl
     exact norm_ (by simp only [putAll, Act.put, qA, qB, qC]) (hCont (v248, v251, gb254) _ ⟨hHeld, (xH (xM HO224.out (fun _ hk => ⟨hk.1.1, ⟨hk.1.2, hk.2⟩⟩))), (xH (xM HO227.out (fun _ hk => ⟨hk.1.1, ⟨hk.1.2, hk.2⟩⟩))), (xH (xM HO232.out (fun _ hk => ⟨hk.1.1, ⟨hk.1.2, hk.2⟩⟩))), (xH (xM HO235.out (fun _ hk => ⟨hk.1.1, ⟨hk.1.2, hk.2⟩⟩))), (xH (xM HO240.out (fun _ hk => ⟨hk.1.1, ⟨hk.1.2, hk.2⟩⟩))), (xH (xM HO243.out (fun _ hk => ⟨hk.1.1, ⟨hk.1.2, hk.2⟩⟩))), (xH (xM HO249.out (fun _ hk => ⟨hk.1.1.2, ⟨hk.1.2, hk.2⟩⟩))), (xH (xM HO252.out (fun _ hk => ⟨hk.1.1.2, ⟨hk.1.2, hk.2⟩⟩))), (yH BK218.out), (yH BK219.out), (yH BK237.out), (yH BK244.out), (yH BK254.out), GW254.out, GE254.out, NB218_254.out, NB254_218.out, NB219_254.out, NB254_219.out, NB237_254.out, NB254_237.out, NB244_254.out, NB254_244.out, (zH HB.out)⟩)
   rintro ⟨v248, v251, gb254⟩ w60 ⟨hS_, h0_, h1_, h2_, h3_, h4_, h5_, h6_, h7_, h8_, h9_, h10_, h11_, h12_, h13_, h14_, h15_, h16_, h17_, h18_, h19_, h20_, h21_, h22_, h23_⟩
   (try dsimp only at h0_ h1_ h2_ h3_ h4_ h5_ h6_ h7_ h8_ h9_ h10_ h11_ h12_ h13_ h14_ h15_ h16_ h17_ h18_ h19_ h20_ h21_ h22_ h23_)
   have n0_ := aM h0_
   have n1_ := aM h1_
   have n2_ := aM h2_
   have n3_ := aM h3_
   have n4_ := aM h4_
   have n5_ := aM h5_
   have n6_ := aM h6_
   have n7_ := aM h7_
   have n8_ := aM h8_
   have n9_ := aM h9_
   have n10_ := aM h10_
   have n11_ := aM h11_
   have n12_ := aM h12_
   have n13_ := aM h13_
   have n14_ := aM h14_
   have n15_ := aM h15_
   have n16_ := aM h16_
   have n17_ := aM h17_
   have n18_ := aM h18_
   have n19_ := aM h19_
   have n20_ := aM h20_
   have n21_ := aM h21_
   have n22_ := aM h22_
   have n23_ := aM h23_
   clear HO224 HO227 HO232 HO235 HO240 HO243 BK218 BK219 BK237 BK244 HB h0_ h1_ h2_ h3_ h4_ h5_ h6_ h7_ h8_ h9_ h10_ h11_ h12_ h13_ h14_ h15_ h16_ h17_ h18_ h19_ h20_ h21_ h22_ h23_
   have HO224 := n0_
   have HO227 := n1_
   have HO232 := n2_
   have HO235 := n3_
   have HO240 := n4_
   have HO243 := n5_
   have HO249 := n6_
   have HO252 := n7_
   have BK218 := n8_
   have BK219 := n9_
   have BK237 := n10_
   have BK244 := n11_
   have BK254 := n12_
   have GW254 := n13_
   have GE254 := n14_
   have NB218_254 := n15_
   have NB254_218 := n16_
   have NB219_254 := n17_
   have NB254_219 := n18_
   have NB237_254 := n19_
   have NB254_237 := n20_
   have NB244_254 := n21_
   have NB254_244 := n22_
   have HB := n23_
   clear n0_ n1_ n2_ n3_ n4_ n5_ n6_ n7_ n8_ n9_ n10_ n11_ n12_ n13_ n14_ n15_ n16_ n17_ n18_ n19_ n20_ n21_ n22_ n23_
   have hHeld : w60.cell? ⟨gb244, 0, none⟩ = some (.slice Ao49 t238.length co49) ∧ w60.cell? ⟨gb244, 1, none⟩ = some (.slice Ao54 t241.length co54) ∧ w60.cell? ⟨gb219, 0, none⟩ = some (.int .i64 a1_0) ∧ w60.cell? ⟨gb219, 1, none⟩ = some (.string a1_1) := hS_
   obtain ⟨Ao61, co61, eo61⟩ := Kd.R_slice HO249.out
   (first | subst eo61 | obtain ⟨rfl, rfl⟩ := eI eo61)
   obtain ⟨Ao63, co63, eo63⟩ := Kd.R_slice HO252.out
   (first | subst eo63 | obtain ⟨rfl, rfl⟩ := eI eo63)
   refine norm_ (a' := ?_) ?_ ?_
   rotate_left
   ·simp only [putAll, Act.put, qA, qB, qC]
    rfl
   refine one_ (i := 8) (N := none) #[tT,tT,tT,tT,tT,tT,tT,tT,tT,fF] rfl rfl (one_of HT_.out (by kernel_rfl)) (by decide) (fun K hK => ?_)
   have hs62 : w60.cell? ⟨gb254, 0, none⟩ = some (.slice none 0 0) := yc BK254.out 0
   have hfs62 := yZ BK254.out 0
   have hns62_0 := NB218_254.out
   have hns62_1 := NB219_254.out
   have hns62_2 := NB237_254.out
   have hns62_3 := NB244_254.out
   have hms62_0 := NB254_218.out
   have hms62_1 := NB254_219.out
   have hms62_2 := NB254_237.out
   have hms62_3 := NB254_244.out
   have hs64 : w60.cell? ⟨gb254, 1, none⟩ = some (.slice none 0 0) := yc BK254.out 1
   have hfs64 := yZ BK254.out 1
   have hns64_0 := NB218_254.out
   have hns64_1 := NB219_254.out
   have hns64_2 := NB237_254.out
   have hns64_3 := NB244_254.out
   have hms64_0 := NB254_218.out
   have hms64_1 := NB254_219.out
   have hms64_2 := NB254_237.out
   have hms64_3 := NB254_244.out
   refine skip_ (w1 := ?_) (by rfl) rfl ?_ ?_
   rotate_left
   ·go_simp
    rfl
   refine hK.out _ _ ⟨((cell_far (p := ⟨gb254, _, none⟩) NB244_254.out _).trans (((cell_far (p := ⟨gb254, _, none⟩) NB244_254.out _).trans (hHeld.1)))), ((cell_far (p := ⟨gb254, _, none⟩) NB244_254.out _).trans (((cell_far (p := ⟨gb254, _, none⟩) NB244_254.out _).trans (hHeld.2.1)))), ((cell_far (p := ⟨gb254, _, none⟩) NB219_254.out _).trans (((cell_far (p := ⟨gb254, _, none⟩) NB219_254.out _).trans (hHeld.2.2.1)))), ((cell_far (p := ⟨gb254, _, none⟩) NB219_254.out _).trans (((cell_far (p := ⟨gb254, _, none⟩) NB219_254.out _).trans (hHeld.2.2.2))))⟩ (fun hHeld => ?_)
   clear hK K
   refine pure_ (i := 9) (N := some 10) (v := ?_) (a' := ?_) #[tT,tT,tT,tT,tT,tT,tT,tT,tT,tT] rfl rfl (any_of HT_.out (by kernel_rfl)) (fun _ _ _ h => h) (Or.inl ⟨by rfl, ?_⟩) ?_ ?_
   rotate_left
   ·intro w'
    go_simp
    with_reducible rfl
   rotate_left
   ·simp only [Act.put, qA, qB, qC, i64_w, i32_w]
    rfl
   refine done_ (done_of HT_.out (by kernel_rfl)) ?_
   go_upto_region 11 with (fail)
   go_cut [51] (fun v51 wc => ∃ (kq : Nat) (x51_24 : Bool), v51 = .bool x51_24 ∧ Aside0 (laws_FnExactWriteSector.j0 kq t236 t253 x51_24 l0_0 l0_1 a1_0 a1_1 t230 t233 t238 t241 t247 t250 = some r) ∧ Aside0 (kq ≤ k) ∧ Aside0 (Kd.R Kd.string 9 wc w.heap.size (fun k_ => some k_ ≠ oB Ao49 t238.length co49 ∧ some k_ ≠ oB Ao61 t247.length co61) (.slice Ao41 t230.length co41) t230) ∧ Aside0 (Kd.R k42 42 wc w.heap.size (fun k_ => some k_ ≠ oB Ao54 t241.length co54 ∧ some k_ ≠ oB Ao63 t250.length co63) (.slice Ao43 t233.length co43) t233) ∧ Aside0 (Kd.R Kd.string 9 wc w.heap.size (fun k_ => some k_ ≠ oB Ao41 t230.length co41 ∧ some k_ ≠ oB Ao61 t247.length co61) (.slice Ao49 t238.length co49) t238) ∧ Aside0 (Kd.R k42 42 wc w.heap.size (fun k_ => some k_ ≠ oB Ao43 t233.length co43 ∧ some k_ ≠ oB Ao63 t250.length co63) (.slice Ao54 t241.length co54) t241) ∧ Aside0 (Kd.R Kd.string 9 wc w.heap.size (fun k_ => some k_ ≠ oB Ao41 t230.length co41 ∧ some k_ ≠ oB Ao49 t238.length co49) (.slice Ao61 t247.length co61) t247) ∧ Aside0 (Kd.R k42 42 wc w.heap.size (fun k_ => some k_ ≠ oB Ao43 t233.length co43 ∧ some k_ ≠ oB Ao54 t241.length co54) (.slice Ao63 t250.length co63) t250) ∧ Aside0 (wc.heap[gb218]? = some (.cells #[(.slice A0_0 l0_0.length c0_0), (.slice A0_1 l0_1.length c0_1)] 25 (0, 0))) ∧ Aside0 (wc.heap[gb219]? = some (.cells #[.int .i64 a1_0, .string a1_1] 38 (0, 0))) ∧ Aside0 (wc.heap[gb237]? = some (.cells #[(.slice Ao41 t230.length co41), (.slice Ao43 t233.length co43)] 30 (0, 0))) ∧ Aside0 (wc.heap[gb244]? = some (.cells #[(.slice Ao49 t238.length co49), (.slice Ao54 t241.length co54)] 30 (0, 0))) ∧ Aside0 (wc.heap[gb254]? = some (.cells #[(.slice Ao61 t247.length co61), (.slice Ao63 t250.length co63)] 30 (0, 0))) ∧ Aside0 (Below w.heap.size w wc))
   case first =>
    have H := HC25.out
    clear HC25
    replace H := Option.bind_eq_some_iff.mp H
    obtain ⟨t255, A650, H⟩ := H
    replace H : (if t255 = true then (laws_FnExactWriteSector.j0 k t236 t253 (t253 != t236) l0_0 l0_1 a1_0 a1_1 t230 t233 t238 t241 t247 t250) else (laws_FnExactWriteSector.j0 k t236 t253 true l0_0 l0_1 a1_0 a1_1 t230 t233 t238 t241 t247 t250)) = some r := H
    have A65 := aM A650
    clear A650
    by_cases c66 : t255 = true
    ·subst c66
     have H1 : (laws_FnExactWriteSector.j0 k t236 t253 (t253 != t236) l0_0 l0_1 a1_0 a1_1 t230 t233 t238 t241 t247 t250) = some r := by rw [if_pos rfl] at H; exact H
     clear H
     have H := H1
     clear H1
     have H' := aM H
     clear H
     have hnb67 := NB254_218.out
     have hnc67 := NB218_254.out
     have hnb68 := NB254_219.out
     have hnc68 := NB219_254.out
     have hnb69 := NB254_237.out
     have hnc69 := NB237_254.out
     have hnb70 := NB254_244.out
     have hnc70 := NB244_254.out
     have hcz71_0 : w60.cell? ⟨gb254, 0, none⟩ = some (.slice none 0 0) := yc BK254.out 0
     have hcz71_1 : w60.cell? ⟨gb254, 1, none⟩ = some (.slice none 0 0) := yc BK254.out 1
     have hfz71_0 := yZ BK254.out 0
     have hfz71_1 := yZ BK254.out 1
     have hnb72 := NB237_218.out
     have hnc72 := NB218_237.out
     have hnb73 := NB237_219.out
     have hnc73 := NB219_237.out
     have hnb74 := NB237_244.out
     have hnc74 := NB244_237.out
     have hcz75_0 : w60.cell? ⟨gb237, 0, none⟩ = some (.slice Ao41 t230.length co41) := yc BK237.out 0
     have hcz75_1 : w60.cell? ⟨gb237, 1, none⟩ = some (.slice Ao43 t233.length co43) := yc BK237.out 1
     have hfz75_0 := yZ BK237.out 0
     have hfz75_1 := yZ BK237.out 1
     go_wp2_with (first | ((with_reducible refine gate_callee (f := 17) rfl ?_); refine goesL_ (some 45) rfl rfl Try.func17 (by kernel_rfl) rfl #[.agg #[.slice Ao61 t247.length co61, .slice Ao63 t250.length co63], .agg #[.slice Ao41 t230.length co41, .slice Ao43 t233.length co43]] rfl (by (try simp only [List.map_toArray, List.map_cons, List.map_nil]); first | done | rfl | (simp only [List.length_drop, List.length_take]; rfl)) ?_; (with_reducible refine (laws_eqDevice.calls k _ _ t247 _ _ t250 _ _ t230 _ _ t233 true _ ?side1 ?side2 ?side3 ?side4 ?side5 ?side6 ?side7 ?side8 A65.out).mono ?_); (case side1 => exact rC (n := t247.length) (c := co61) ((x2 HO249.out BK254.out (by decide) (.slice Ao61 t247.length co61) (.slice Ao63 t250.length co63)))); (case side2 => exact (Kd.R_reads' HO249.out).2.1); (case side3 => exact rC (n := t250.length) (c := co63) ((x2 HO252.out BK254.out (by decide) (.slice Ao61 t247.length co61) (.slice Ao63 t250.length co63)))); (case side4 => exact (Kd.R_reads' HO252.out).2.1); (case side5 => exact rC (n := t230.length) (c := co41) ((x2 HO232.out BK254.out (by decide) (.slice Ao61 t247.length co61) (.slice Ao63 t250.length co63)))); (case side6 => exact (Kd.R_reads' HO232.out).2.1); (case side7 => exact rC (n := t233.length) (c := co43) ((x2 HO235.out BK254.out (by decide) (.slice Ao61 t247.length co61) (.slice Ao63 t250.length co63)))); (case side8 => exact (Kd.R_reads' HO235.out).2.1); rintro e w76 ⟨rfl, hb⟩; refine ⟨_, rfl, ?_⟩; replace HO224 := aM (xB (xH ((x2 HO224.out BK254.out (by decide) (.slice Ao61 t247.length co61) (.slice Ao63 t250.length co63)))) hb); replace HO227 := aM (xB (xH ((x2 HO227.out BK254.out (by decide) (.slice Ao61 t247.length co61) (.slice Ao63 t250.length co63)))) hb); replace HO232 := aM (xB (xH ((x2 HO232.out BK254.out (by decide) (.slice Ao61 t247.length co61) (.slice Ao63 t250.length co63)))) hb); replace HO235 := aM (xB (xH ((x2 HO235.out BK254.out (by decide) (.slice Ao61 t247.length co61) (.slice Ao63 t250.length co63)))) hb); replace HO240 := aM (xB (xH ((x2 HO240.out BK254.out (by decide) (.slice Ao61 t247.length co61) (.slice Ao63 t250.length co63)))) hb); replace HO243 := aM (xB (xH ((x2 HO243.out BK254.out (by decide) (.slice Ao61 t247.length co61) (.slice Ao63 t250.length co63)))) hb); replace HO249 := aM (xB (xH ((x2 HO249.out BK254.out (by decide) (.slice Ao61 t247.length co61) (.slice Ao63 t250.length co63)))) hb); replace HO252 := aM (xB (xH ((x2 HO252.out BK254.out (by decide) (.slice Ao61 t247.length co61) (.slice Ao63 t250.length co63)))) hb); replace BK218 := aM (yB (g := gb218) (o := .cells #[.slice A0_0 l0_0.length c0_0, .slice A0_1 l0_1.length c0_1] 25 (0, 0)) (by (with_reducible repeat (first | refine yN ?_ _ | refine yD ?_ | refine yA ?_ _)); refine yF ?_ NB218_254.out _; (with_reducible repeat (first | refine yN ?_ _ | refine yD ?_ | refine yA ?_ _)); refine yF ?_ NB218_254.out _; (with_reducible repeat (first | refine yN ?_ _ | refine yD ?_ | refine yA ?_ _)); exact BK218.out) hb); replace BK219 := aM (yB (g := gb219) (o := .cells #[.int .i64 a1_0, .string a1_1] 38 (0, 0)) (by (with_reducible repeat (first | refine yN ?_ _ | refine yD ?_ | refine yA ?_ _)); refine yF ?_ NB219_254.out _; (with_reducible repeat (first | refine yN ?_ _ | refine yD ?_ | refine yA ?_ _)); refine yF ?_ NB219_254.out _; (with_reducible repeat (first | refine yN ?_ _ | refine yD ?_ | refine yA ?_ _)); exact BK219.out) hb); replace BK237 := aM (yB (g := gb237) (o := .cells #[.slice Ao41 t230.length co41, .slice Ao43 t233.length co43] 30 (0, 0)) (by (with_reducible repeat (first | refine yN ?_ _ | refine yD ?_ | refine yA ?_ _)); refine yF ?_ NB237_254.out _; (with_reducible repeat (first | refine yN ?_ _ | refine yD ?_ | refine yA ?_ _)); refine yF ?_ NB237_254.out _; (with_reducible repeat (first | refine yN ?_ _ | refine yD ?_ | refine yA ?_ _)); exact BK237.out) hb); replace BK244 := aM (yB (g := gb244) (o := .cells #[.slice Ao49 t238.length co49, .slice Ao54 t241.length co54] 30 (0, 0)) (by (with_reducible repeat (first | refine yN ?_ _ | refine yD ?_ | refine yA ?_ _)); refine yF ?_ NB244_254.out _; (with_reducible repeat (first | refine yN ?_ _ | refine yD ?_ | refine yA ?_ _)); refine yF ?_ NB244_254.out _; (with_reducible repeat (first | refine yN ?_ _ | refine yD ?_ | refine yA ?_ _)); exact BK244.out) hb); replace BK254 := aM (yB (g := gb254) (o := .cells #[.slice Ao61 t247.length co61, .slice Ao63 t250.length co63] 30 (0, 0)) (by (with_reducible repeat (first | refine yN ?_ _ | refine yD ?_ | refine yA ?_ _)); refine yP (cs := #[.slice Ao61 t247.length co61, .slice none 0 0]) ?_ 1 _ rfl; (with_reducible repeat (first | refine yN ?_ _ | refine yD ?_ | refine yA ?_ _)); refine yP (cs := #[.slice none 0 0, .slice none 0 0]) ?_ 0 _ rfl; (with_reducible repeat (first | refine yN ?_ _ | refine yD ?_ | refine yA ?_ _)); exact BK254.out) hb); replace HB := aM (zT (zH HB.out) hb); (try clear hb)))
     go_meet
     case rel => exact ⟨_, ((t253 != t236)), (by first | rfl | (simp; done) | (simp [*]; done)), H', ⟨by first | omega | exact Nat.le_refl _⟩, ⟨xH (xM HO232.out (fun _ hk => ⟨hk.2.1, hk.2.2⟩))⟩, ⟨xH (xM HO235.out (fun _ hk => ⟨hk.2.1, hk.2.2⟩))⟩, ⟨xH (xM HO240.out (fun _ hk => ⟨hk.2.1, hk.2.2⟩))⟩, ⟨xH (xM HO243.out (fun _ hk => ⟨hk.2.1, hk.2.2⟩))⟩, ⟨xH (xM HO249.out (fun _ hk => ⟨hk.2.1, hk.2.2⟩))⟩, ⟨xH (xM HO252.out (fun _ hk => ⟨hk.2.1, hk.2.2⟩))⟩, ⟨yH BK218.out⟩, ⟨yH BK219.out⟩, ⟨yH BK237.out⟩, ⟨yH BK244.out⟩, ⟨yH BK254.out⟩, ⟨zH HB.out⟩⟩
    ·replace c66 := Bool.eq_false_iff.mpr c66
     subst c66
     have H1 : (laws_FnExactWriteSector.j0 k t236 t253 true l0_0 l0_1 a1_0 a1_1 t230 t233 t238 t241 t247 t250) = some r := by rw [if_neg (show ¬ (false = true) by decide)] at H; exact H
     clear H
     have H := H1
     clear H1
     have H' := aM H
     clear H
     have hnb77 := NB254_218.out
     have hnc77 := NB218_254.out
     have hnb78 := NB254_219.out
     have hnc78 := NB219_254.out
     have hnb79 := NB254_237.out
     have hnc79 := NB237_254.out
     have hnb80 := NB254_244.out
     have hnc80 := NB244_254.out
     have hcz81_0 : w60.cell? ⟨gb254, 0, none⟩ = some (.slice none 0 0) := yc BK254.out 0
     have hcz81_1 : w60.cell? ⟨gb254, 1, none⟩ = some (.slice none 0 0) := yc BK254.out 1
     have hfz81_0 := yZ BK254.out 0
     have hfz81_1 := yZ BK254.out 1
     have hnb82 := NB237_218.out
     have hnc82 := NB218_237.out
     have hnb83 := NB237_219.out
     have hnc83 := NB219_237.out
     have hnb84 := NB237_244.out
     have hnc84 := NB244_237.out
     have hcz85_0 : w60.cell? ⟨gb237, 0, none⟩ = some (.slice Ao41 t230.length co41) := yc BK237.out 0
     have hcz85_1 : w60.cell? ⟨gb237, 1, none⟩ = some (.slice Ao43 t233.length co43) := yc BK237.out 1
     have hfz85_0 := yZ BK237.out 0
     have hfz85_1 := yZ BK237.out 1
     go_wp2_with (first | ((with_reducible refine gate_callee (f := 17) rfl ?_); refine goesL_ (some 45) rfl rfl Try.func17 (by kernel_rfl) rfl #[.agg #[.slice Ao61 t247.length co61, .slice Ao63 t250.length co63], .agg #[.slice Ao41 t230.length co41, .slice Ao43 t233.length co43]] rfl (by (try simp only [List.map_toArray, List.map_cons, List.map_nil]); first | done | rfl | (simp only [List.length_drop, List.length_take]; rfl)) ?_; (with_reducible refine (laws_eqDevice.calls k _ _ t247 _ _ t250 _ _ t230 _ _ t233 false _ ?side1 ?side2 ?side3 ?side4 ?side5 ?side6 ?side7 ?side8 A65.out).mono ?_); (case side1 => exact rC (n := t247.length) (c := co61) ((x2 HO249.out BK254.out (by decide) (.slice Ao61 t247.length co61) (.slice Ao63 t250.length co63)))); (case side2 => exact (Kd.R_reads' HO249.out).2.1); (case side3 => exact rC (n := t250.length) (c := co63) ((x2 HO252.out BK254.out (by decide) (.slice Ao61 t247.length co61) (.slice Ao63 t250.length co63)))); (case side4 => exact (Kd.R_reads' HO252.out).2.1); (case side5 => exact rC (n := t230.length) (c := co41) ((x2 HO232.out BK254.out (by decide) (.slice Ao61 t247.length co61) (.slice Ao63 t250.length co63)))); (case side6 => exact (Kd.R_reads' HO232.out).2.1); (case side7 => exact rC (n := t233.length) (c := co43) ((x2 HO235.out BK254.out (by decide) (.slice Ao61 t247.length co61) (.slice Ao63 t250.length co63)))); (case side8 => exact (Kd.R_reads' HO235.out).2.1); rintro e w86 ⟨rfl, hb⟩; refine ⟨_, rfl, ?_⟩; replace HO224 := aM (xB (xH ((x2 HO224.out BK254.out (by decide) (.slice Ao61 t247.length co61) (.slice Ao63 t250.length co63)))) hb); replace HO227 := aM (xB (xH ((x2 HO227.out BK254.out (by decide) (.slice Ao61 t247.length co61) (.slice Ao63 t250.length co63)))) hb); replace HO232 := aM (xB (xH ((x2 HO232.out BK254.out (by decide) (.slice Ao61 t247.length co61) (.slice Ao63 t250.length co63)))) hb); replace HO235 := aM (xB (xH ((x2 HO235.out BK254.out (by decide) (.slice Ao61 t247.length co61) (.slice Ao63 t250.length co63)))) hb); replace HO240 := aM (xB (xH ((x2 HO240.out BK254.out (by decide) (.slice Ao61 t247.length co61) (.slice Ao63 t250.length co63)))) hb); replace HO243 := aM (xB (xH ((x2 HO243.out BK254.out (by decide) (.slice Ao61 t247.length co61) (.slice Ao63 t250.length co63)))) hb); replace HO249 := aM (xB (xH ((x2 HO249.out BK254.out (by decide) (.slice Ao61 t247.length co61) (.slice Ao63 t250.length co63)))) hb); replace HO252 := aM (xB (xH ((x2 HO252.out BK254.out (by decide) (.slice Ao61 t247.length co61) (.slice Ao63 t250.length co63)))) hb); replace BK218 := aM (yB (g := gb218) (o := .cells #[.slice A0_0 l0_0.length c0_0, .slice A0_1 l0_1.length c0_1] 25 (0, 0)) (by (with_reducible repeat (first | refine yN ?_ _ | refine yD ?_ | refine yA ?_ _)); refine yF ?_ NB218_254.out _; (with_reducible repeat (first | refine yN ?_ _ | refine yD ?_ | refine yA ?_ _)); refine yF ?_ NB218_254.out _; (with_reducible repeat (first | refine yN ?_ _ | refine yD ?_ | refine yA ?_ _)); exact BK218.out) hb); replace BK219 := aM (yB (g := gb219) (o := .cells #[.int .i64 a1_0, .string a1_1] 38 (0, 0)) (by (with_reducible repeat (first | refine yN ?_ _ | refine yD ?_ | refine yA ?_ _)); refine yF ?_ NB219_254.out _; (with_reducible repeat (first | refine yN ?_ _ | refine yD ?_ | refine yA ?_ _)); refine yF ?_ NB219_254.out _; (with_reducible repeat (first | refine yN ?_ _ | refine yD ?_ | refine yA ?_ _)); exact BK219.out) hb); replace BK237 := aM (yB (g := gb237) (o := .cells #[.slice Ao41 t230.length co41, .slice Ao43 t233.length co43] 30 (0, 0)) (by (with_reducible repeat (first | refine yN ?_ _ | refine yD ?_ | refine yA ?_ _)); refine yF ?_ NB237_254.out _; (with_reducible repeat (first | refine yN ?_ _ | refine yD ?_ | refine yA ?_ _)); refine yF ?_ NB237_254.out _; (with_reducible repeat (first | refine yN ?_ _ | refine yD ?_ | refine yA ?_ _)); exact BK237.out) hb); replace BK244 := aM (yB (g := gb244) (o := .cells #[.slice Ao49 t238.length co49, .slice Ao54 t241.length co54] 30 (0, 0)) (by (with_reducible repeat (first | refine yN ?_ _ | refine yD ?_ | refine yA ?_ _)); refine yF ?_ NB244_254.out _; (with_reducible repeat (first | refine yN ?_ _ | refine yD ?_ | refine yA ?_ _)); refine yF ?_ NB244_254.out _; (with_reducible repeat (first | refine yN ?_ _ | refine yD ?_ | refine yA ?_ _)); exact BK244.out) hb); replace BK254 := aM (yB (g := gb254) (o := .cells #[.slice Ao61 t247.length co61, .slice Ao63 t250.length co63] 30 (0, 0)) (by (with_reducible repeat (first | refine yN ?_ _ | refine yD ?_ | refine yA ?_ _)); refine yP (cs := #[.slice Ao61 t247.length co61, .slice none 0 0]) ?_ 1 _ rfl; (with_reducible repeat (first | refine yN ?_ _ | refine yD ?_ | refine yA ?_ _)); refine yP (cs := #[.slice none 0 0, .slice none 0 0]) ?_ 0 _ rfl; (with_reducible repeat (first | refine yN ?_ _ | refine yD ?_ | refine yA ?_ _)); exact BK254.out) hb); replace HB := aM (zT (zH HB.out) hb); (try clear hb)))
     go_meet
     case rel => exact ⟨_, (true), (by first | rfl | (simp; done) | (simp [*]; done)), H', ⟨by first | omega | exact Nat.le_refl _⟩, ⟨xH (xM HO232.out (fun _ hk => ⟨hk.2.1, hk.2.2⟩))⟩, ⟨xH (xM HO235.out (fun _ hk => ⟨hk.2.1, hk.2.2⟩))⟩, ⟨xH (xM HO240.out (fun _ hk => ⟨hk.2.1, hk.2.2⟩))⟩, ⟨xH (xM HO243.out (fun _ hk => ⟨hk.2.1, hk.2.2⟩))⟩, ⟨xH (xM HO249.out (fun _ hk => ⟨hk.2.1, hk.2.2⟩))⟩, ⟨xH (xM HO252.out (fun _ hk => ⟨hk.2.1, hk.2.2⟩))⟩, ⟨yH BK218.out⟩, ⟨yH BK219.out⟩, ⟨yH BK237.out⟩, ⟨yH BK244.out⟩, ⟨yH BK254.out⟩, ⟨zH HB.out⟩⟩
   case rest =>
    clear HC25
    (try clear c1); (try clear c2); (try clear p2); (try clear c6); (try clear c7); (try clear c8); (try clear c17); (try clear c24); (try clear c25); (try clear c66); (try clear c67); (try clear c68); (try clear c69); (try clear c70); (try clear c72); (try clear c73); (try clear c74); (try clear c77); (try clear c78); (try clear c79); (try clear c80); (try clear c82); (try clear c83); (try clear c84); (try clear hcz71_0); (try clear hcz71_1); (try clear hcz75_0); (try clear hcz75_1); (try clear hcz81_0); (try clear hcz81_1); (try clear hcz85_0); (try clear hcz85_1); (try clear hfz71_0); (try clear hfz71_1); (try clear hfz75_0); (try clear hfz75_1); (try clear hfz81_0); (try clear hfz81_1); (try clear hfz85_0); (try clear hfz85_1)
    obtain ⟨kq, x51_24, rfl, HA, HJ24, p0', p1', p2', p3', p4', p5', BK218, BK219, BK237, BK244, BK254, HB⟩ := hcut
    cases kq with
    | zero => exact absurd HA.out (fun h_ => by change none = some _ at h_; cases h_)
    | succ kj24 =>
     have H := HA.out
     clear HA
     simp only [laws_FnExactWriteSector.j0] at H
     by_cases c87 : x51_24 = true
     ·subst c87
      have H1 : (some false) = some r := by rw [if_pos rfl] at H; exact H
      clear H
      have H := H1
      clear H1
      exact absurd (H.trans (congrArg some HR_.out)) (by decide)
     ·replace c87 := Bool.eq_false_iff.mpr c87
      subst c87
      have H1 : ((laws_toDevice.f kj24 l0_0 l0_1).bind fun bt256 => ((laws_eqDevice.f kj24 t238 t241 bt256.1 bt256.2).bind fun t262 => (if t262 = true then ((laws_markDevice.f kj24 t238 t241 1).bind fun bt263 => (if bt263.1 < 0 then (laws_FnExactWriteSector.j1 kj24 t236 true l0_0 l0_1 a1_0 a1_1 t230 t233 t247 t250) else ((laws_eqDevice.f kj24 t247 t250 t230 t233).bind fun t266 => (if t266 = true then (laws_FnExactWriteSector.j1 kj24 t236 (t253 != t236) l0_0 l0_1 a1_0 a1_1 t230 t233 t247 t250) else (laws_FnExactWriteSector.j1 kj24 t236 true l0_0 l0_1 a1_0 a1_1 t230 t233 t247 t250))))) else (some false)))) = some r := by rw [if_neg (show ¬ (false = true) by decide)] at H; exact H
      clear H
      have H := H1
      clear H1
      replace H := Option.bind_eq_some_iff.mp H
      obtain ⟨⟨t256, t259⟩, A880, H⟩ := H
      replace H : ((laws_eqDevice.f kj24 t238 t241 t256 t259).bind fun t262 => (if t262 = true then ((laws_markDevice.f kj24 t238 t241 1).bind fun bt263 => (if bt263.1 < 0 then (laws_FnExactWriteSector.j1 kj24 t236 true l0_0 l0_1 a1_0 a1_1 t230 t233 t247 t250) else ((laws_eqDevice.f kj24 t247 t250 t230 t233).bind fun t266 => (if t266 = true then (laws_FnExactWriteSector.j1 kj24 t236 (t253 != t236) l0_0 l0_1 a1_0 a1_1 t230 t233 t247 t250) else (laws_FnExactWriteSector.j1 kj24 t236 true l0_0 l0_1 a1_0 a1_1 t230 t233 t247 t250))))) else (some false))) = some r := H
      have A88 := aM A880
      clear A880
      replace H := Option.bind_eq_some_iff.mp H
      obtain ⟨t262, A890, H⟩ := H
      replace H : (if t262 = true then ((laws_markDevice.f kj24 t238 t241 1).bind fun bt263 => (if bt263.1 < 0 then (laws_FnExactWriteSector.j1 kj24 t236 true l0_0 l0_1 a1_0 a1_1 t230 t233 t247 t250) else ((laws_eqDevice.f kj24 t247 t250 t230 t233).bind fun t266 => (if t266 = true then (laws_FnExactWriteSector.j1 kj24 t236 (t253 != t236) l0_0 l0_1 a1_0 a1_1 t230 t233 t247 t250) else (laws_FnExactWriteSector.j1 kj24 t236 true l0_0 l0_1 a1_0 a1_1 t230 t233 t247 t250))))) else (some false)) = some r := H
      have A89 := aM A890
      clear A890
      by_cases c90 : t262 = true
      ·subst c90
       have H1 : ((laws_markDevice.f kj24 t238 t241 1).bind fun bt263 => (if bt263.1 < 0 then (laws_FnExactWriteSector.j1 kj24 t236 true l0_0 l0_1 a1_0 a1_1 t230 t233 t247 t250) else ((laws_eqDevice.f kj24 t247 t250 t230 t233).bind fun t266 => (if t266 = true then (laws_FnExactWriteSector.j1 kj24 t236 (t253 != t236) l0_0 l0_1 a1_0 a1_1 t230 t233 t247 t250) else (laws_FnExactWriteSector.j1 kj24 t236 true l0_0 l0_1 a1_0 a1_1 t230 t233 t247 t250))))) = some r := by rw [if_pos rfl] at H; exact H
       clear H
       have H := H1
       clear H1
       replace H := Option.bind_eq_some_iff.mp H
       obtain ⟨⟨t263, t264, t265⟩, A910, H⟩ := H
       replace H : (if t263 < 0 then (laws_FnExactWriteSector.j1 kj24 t236 true l0_0 l0_1 a1_0 a1_1 t230 t233 t247 t250) else ((laws_eqDevice.f kj24 t247 t250 t230 t233).bind fun t266 => (if t266 = true then (laws_FnExactWriteSector.j1 kj24 t236 (t253 != t236) l0_0 l0_1 a1_0 a1_1 t230 t233 t247 t250) else (laws_FnExactWriteSector.j1 kj24 t236 true l0_0 l0_1 a1_0 a1_1 t230 t233 t247 t250)))) = some r := H
       have A91 := aM A910
       clear A910
       have HC92 := aM H
       clear H
       try go_wp2
       replace p0' := aM (xD p0'.out)
       replace p1' := aM (xD p1'.out)
       replace p2' := aM (xD p2'.out)
       replace p3' := aM (xD p3'.out)
       replace p4' := aM (xD p4'.out)
       replace p5' := aM (xD p5'.out)
       replace BK218 := aM (yD BK218.out)
       replace BK219 := aM (yD BK219.out)
       replace BK237 := aM (yD BK237.out)
       replace BK244 := aM (yD BK244.out)
       replace BK254 := aM (yD BK254.out)
       replace HB := aM (zD HB.out)
       refine start_ (n := 5) (S := fun w' => w'.cell? ⟨gb244, 0, none⟩ = some (.slice Ao49 t238.length co49) ∧ w'.cell? ⟨gb244, 1, none⟩ = some (.slice Ao54 t241.length co54) ∧ w'.cell? ⟨gb218, 0, none⟩ = some (.slice A0_0 l0_0.length c0_0) ∧ w'.cell? ⟨gb218, 1, none⟩ = some (.slice A0_1 l0_1.length c0_1)) (ds := []) #[fF,fF,fF,fF,fF] (by kernel_rfl) rfl rfl ⟨yc BK244.out 0, yc BK244.out 1, yc BK218.out 0, yc BK218.out 1⟩ (fun hHeld => ?_)
       generalize wc.drew = w93 at p0' p1' p2' p3' p4' p5' BK218 BK219 BK237 BK244 BK254 HB hHeld ⊢
       refine take_ (i := 0) (N := some 52) (v := ?_) (a' := ?_) #[tT,fF,fF,fF,fF] rfl rfl (by kernel_rfl) (fun _ _ _ h => h) (Or.inl ⟨by rfl, ?_⟩) hHeld ?_ ?_
       rotate_left
       ·rintro w' ⟨s0, s1, s2, s3⟩
        go_simp
        with_reducible rfl
       rotate_left
       ·simp only [Act.put, qA, qB, qC, i64_w, i32_w]
        rfl
       refine take_ (i := 1) (N := some 53) (v := ?_) (a' := ?_) #[tT,tT,fF,fF,fF] rfl rfl (by kernel_rfl) (fun _ _ _ h => h) (Or.inl ⟨by rfl, ?_⟩) hHeld ?_ ?_
       rotate_left
       ·rintro w' ⟨s0, s1, s2, s3⟩
        go_simp
        with_reducible rfl
       rotate_left
       ·simp only [Act.put, qA, qB, qC, i64_w, i32_w]
        rfl
       refine one_ (i := 2) (N := some 54) #[tT,tT,tT,fF,fF] rfl rfl (by kernel_rfl) (by decide) (fun K hK => ?_)
       refine gS Try.func15 (by kernel_rfl) rfl #[.agg #[.slice A0_0 l0_0.length c0_0, .slice A0_1 l0_1.length c0_1]] (by rfl) rfl rfl ?_
       with_reducible refine (laws_toDevice.calls kj24 _ _ l0_0 _ _ l0_1 t256 t259 _ ?side1 ?side2 ?side3 ?side4 A88.out).mono ?_
       (case side1 => exact cK HR0_0.out HB.out)
       (case side2 => exact HC0_0.out)
       (case side3 => exact cK HR0_1.out HB.out)
       (case side4 => exact HC0_1.out)
       rintro e w94 ⟨v257, v260, rfl, ho0, ho1, hb⟩
       refine ⟨_, rfl, ?_⟩
       have HO258 := aM (xL (Kd.R_new' (Kd.R_new' (Kd.R_new' ho0 (Kd.R_lt (xH p0'.out))) (Kd.R_lt (xH p2'.out))) (Kd.R_lt (xH p4'.out))) (zZ (zH HB.out)))
       replace p0' := aM (Kd.R_elder' (xH p0'.out) (Kd.R_base ho0) hb)
       replace p2' := aM (Kd.R_elder' (xH p2'.out) (Kd.R_base ho0) hb)
       replace p4' := aM (Kd.R_elder' (xH p4'.out) (Kd.R_base ho0) hb)
       have HO261 := aM (xL (Kd.R_new' (Kd.R_new' (Kd.R_new' ho1 (Kd.R_lt (xH p1'.out))) (Kd.R_lt (xH p3'.out))) (Kd.R_lt (xH p5'.out))) (zZ (zH HB.out)))
       replace p1' := aM (Kd.R_elder' (xH p1'.out) (Kd.R_base ho1) hb)
       replace p3' := aM (Kd.R_elder' (xH p3'.out) (Kd.R_base ho1) hb)
       replace p5' := aM (Kd.R_elder' (xH p5'.out) (Kd.R_base ho1) hb)
       replace BK218 := yK BK218.out hb
       replace BK219 := yK BK219.out hb
       replace BK237 := yK BK237.out hb
       replace BK244 := yK BK244.out hb
       replace BK254 := yK BK254.out hb
       replace HB := aM (zT (zH HB.out) hb)
       (try clear hb); (try clear ho0); (try clear ho1)
       obtain ⟨Ao95, co95, eo95⟩ := Kd.R_slice HO258.out
       (first | subst eo95 | obtain ⟨rfl, rfl⟩ := eI eo95)
       obtain ⟨Ao96, co96, eo96⟩ := Kd.R_slice HO261.out
       (first | subst eo96 | obtain ⟨rfl, rfl⟩ := eI eo96)
       refine hK.out _ _ ⟨yc BK244.out 0, yc BK244.out 1, yc BK218.out 0, yc BK218.out 1⟩ (fun hHeld => ?_)
       clear hK K
       refine norm_ (a' := ?_) ?_ ?_
       rotate_left
       ·show Act.put _ (some 54) _ = _
        simp only [Act.put, qA, qB, qC, i64_w, i32_w]
        rfl
       refine one_ (i := 3) (N := some 55) #[tT,tT,tT,tT,fF] rfl rfl (by kernel_rfl) (by decide) (fun K hK => ?_)
       refine gS Try.func17 (by kernel_rfl) rfl #[.agg #[.slice Ao49 t238.length co49, .slice Ao54 t241.length co54], .agg #[.slice Ao95 t256.length co95, .slice Ao96 t259.length co96]] (by rfl) rfl rfl ?_
       with_reducible refine (laws_eqDevice.calls kj24 _ _ t238 _ _ t241 _ _ t256 _ _ t259 true _ ?side1 ?side2 ?side3 ?side4 ?side5 ?side6 ?side7 ?side8 A89.out).mono ?_
       (case side1 => repeat (first | exact (Kd.R_reads' p2'.out).2.2 | (with_reducible refine cA ?_ _) | (with_reducible refine cN ?_ _) | (with_reducible refine cD ?_)))
       (case side2 => exact (Kd.R_reads' p2'.out).2.1)
       (case side3 => repeat (first | exact (Kd.R_reads' p3'.out).2.2 | (with_reducible refine cA ?_ _) | (with_reducible refine cN ?_ _) | (with_reducible refine cD ?_)))
       (case side4 => exact (Kd.R_reads' p3'.out).2.1)
       (case side5 => repeat (first | exact (Kd.R_reads' HO258.out).2.2 | (with_reducible refine cA ?_ _) | (with_reducible refine cN ?_ _) | (with_reducible refine cD ?_)))
       (case side6 => exact (Kd.R_reads' HO258.out).2.1)
       (case side7 => repeat (first | exact (Kd.R_reads' HO261.out).2.2 | (with_reducible refine cA ?_ _) | (with_reducible refine cN ?_ _) | (with_reducible refine cD ?_)))
       (case side8 => exact (Kd.R_reads' HO261.out).2.1)
       rintro e w97 ⟨rfl, hb⟩
       refine ⟨_, rfl, ?_⟩
       replace p0' := xK p0'.out hb
       replace p1' := xK p1'.out hb
       replace p2' := xK p2'.out hb
       replace p3' := xK p3'.out hb
       replace p4' := xK p4'.out hb
       replace p5' := xK p5'.out hb
       replace HO258 := xK HO258.out hb
       replace HO261 := xK HO261.out hb
       replace BK218 := yK BK218.out hb
       replace BK219 := yK BK219.out hb
       replace BK237 := yK BK237.out hb
       replace BK244 := yK BK244.out hb
       replace BK254 := yK BK254.out hb
       replace HB := aM (zT (zH HB.out) hb)
       (try clear hb)
       refine hK.out _ _ ⟨yc BK244.out 0, yc BK244.out 1, yc BK218.out 0, yc BK218.out 1⟩ (fun hHeld => ?_)
       clear hK K
       refine norm_ (a' := ?_) ?_ ?_
       rotate_left
       ·show Act.put _ (some 55) _ = _
        simp only [Act.put, qA, qB, qC, i64_w, i32_w]
        rfl
       refine pure_ (i := 4) (N := some 56) (v := ?_) (a' := ?_) #[tT,tT,tT,tT,tT] rfl rfl (by kernel_rfl) (fun _ _ _ h => h) (Or.inl ⟨by rfl, ?_⟩) ?_ ?_
       rotate_left
       ·intro w'
        go_simp
        with_reducible rfl
       rotate_left
       ·simp only [Act.put, qA, qB, qC, i64_w, i32_w]
        rfl
       refine done_ (by kernel_rfl) ?_
       have hnb98 := NB244_218.out
       have hnc98 := NB218_244.out
       have hnb99 := NB244_219.out
       have hnc99 := NB219_244.out
       have hnb100 := NB244_237.out
       have hnc100 := NB237_244.out
       have hnb101 := NB244_254.out
       have hnc101 := NB254_244.out
       have hcz102_0 : w97.cell? ⟨gb244, 0, none⟩ = some (.slice Ao49 t238.length co49) := yc BK244.out 0
       have hcz102_1 : w97.cell? ⟨gb244, 1, none⟩ = some (.slice Ao54 t241.length co54) := yc BK244.out 1
       have hfz102_0 := yZ BK244.out 0
       have hfz102_1 := yZ BK244.out 1
       go_upto_region 17 with (first | ((with_reducible refine gate_callee (f := 26) rfl ?_); refine goesL_ (some 59) rfl rfl Try.func26 (by kernel_rfl) rfl #[.agg #[.slice Ao49 t238.length co49, .slice Ao54 t241.length co54], .int .i64 1] rfl (by (try simp only [List.map_toArray, List.map_cons, List.map_nil]); first | done | rfl | (simp only [List.length_drop, List.length_take]; rfl)) ?_; (with_reducible refine (laws_markDevice.calls kj24 (fun k_ => some k_ = oB Ao49 t238.length co49) (.slice Ao49 t238.length co49) t238 (fun k_ => some k_ = oB Ao54 t241.length co54) (.slice Ao54 t241.length co54) t241 1 t263 t264 t265 w _ ?side1 ?side2 ?side3 A91.out).mono ?_); (case side1 => repeat (first | (with_reducible first | exact HB.out | apply zA | apply zN | apply zD | refine zS ?_ GE218.out | refine zS ?_ GE219.out | refine zS ?_ GE237.out | refine zS ?_ GE244.out | refine zS ?_ GE254.out) | exact HB.out)); (case side2 => exact Kd.R_tight rfl p2'.out); (case side3 => exact Kd.R_tight rfl p3'.out); rintro e w103 ⟨rfl, hy0, hy1, hb, hkp⟩; refine ⟨_, rfl, ?_⟩; replace p0' := aM (xM (ok' := fun k_ => some k_ ≠ oB Ao49 t238.length co49 ∧ some k_ ≠ oB Ao61 t247.length co61 ∧ some k_ ≠ oB Ao95 t256.length co95) (Kd.R_keptB ((Kd.R_apart' p0'.out (Kd.R_typed p3'.out) (by decide))) hkp (fun k_ hk_ hs_ => Or.elim hs_ (fun e_ => (hk_.1.1.1) e_) (fun e_ => (hk_.2) e_))) (fun k_ hk_ => ⟨hk_.1.1.1.1, hk_.1.1.1.2, hk_.1.1.2⟩)); replace p1' := aM (xM (ok' := fun k_ => some k_ ≠ oB Ao54 t241.length co54 ∧ some k_ ≠ oB Ao63 t250.length co63 ∧ some k_ ≠ oB Ao96 t259.length co96) (Kd.R_keptB ((Kd.R_apart' p1'.out (Kd.R_typed p2'.out) (by decide))) hkp (fun k_ hk_ hs_ => Or.elim hs_ (fun e_ => (hk_.2) e_) (fun e_ => (hk_.1.1.1) e_))) (fun k_ hk_ => ⟨hk_.1.1.1.1, hk_.1.1.1.2, hk_.1.1.2⟩)); replace p4' := aM (xM (ok' := fun k_ => some k_ ≠ oB Ao41 t230.length co41 ∧ some k_ ≠ oB Ao49 t238.length co49 ∧ some k_ ≠ oB Ao95 t256.length co95) (Kd.R_keptB ((Kd.R_apart' p4'.out (Kd.R_typed p3'.out) (by decide))) hkp (fun k_ hk_ hs_ => Or.elim hs_ (fun e_ => (hk_.1.1.2) e_) (fun e_ => (hk_.2) e_))) (fun k_ hk_ => ⟨hk_.1.1.1.1, hk_.1.1.1.2, hk_.1.1.2⟩)); replace p5' := aM (xM (ok' := fun k_ => some k_ ≠ oB Ao43 t233.length co43 ∧ some k_ ≠ oB Ao54 t241.length co54 ∧ some k_ ≠ oB Ao96 t259.length co96) (Kd.R_keptB ((Kd.R_apart' p5'.out (Kd.R_typed p2'.out) (by decide))) hkp (fun k_ hk_ hs_ => Or.elim hs_ (fun e_ => (hk_.2) e_) (fun e_ => (hk_.1.1.2) e_))) (fun k_ hk_ => ⟨hk_.1.1.1.1, hk_.1.1.1.2, hk_.1.1.2⟩)); replace BK218 := aM (blk_kept BK218.out hkp (fun hs_ => Or.elim hs_ (fun e_ => (fun e_ => (Kd.R_ne p2'.out BK218.out (by decide)) e_) e_) (fun e_ => (fun e_ => (Kd.R_ne p3'.out BK218.out (by decide)) e_) e_))); replace BK219 := aM (blk_kept BK219.out hkp (fun hs_ => Or.elim hs_ (fun e_ => (fun e_ => (Kd.R_ne p2'.out BK219.out (by decide)) e_) e_) (fun e_ => (fun e_ => (Kd.R_ne p3'.out BK219.out (by decide)) e_) e_))); replace BK237 := aM (blk_kept BK237.out hkp (fun hs_ => Or.elim hs_ (fun e_ => (fun e_ => (Kd.R_ne p2'.out BK237.out (by decide)) e_) e_) (fun e_ => (fun e_ => (Kd.R_ne p3'.out BK237.out (by decide)) e_) e_))); replace BK244 := aM (blk_kept BK244.out hkp (fun hs_ => Or.elim hs_ (fun e_ => (fun e_ => (Kd.R_ne p2'.out BK244.out (by decide)) e_) e_) (fun e_ => (fun e_ => (Kd.R_ne p3'.out BK244.out (by decide)) e_) e_))); replace BK254 := aM (blk_kept BK254.out hkp (fun hs_ => Or.elim hs_ (fun e_ => (fun e_ => (Kd.R_ne p2'.out BK254.out (by decide)) e_) e_) (fun e_ => (fun e_ => (Kd.R_ne p3'.out BK254.out (by decide)) e_) e_))); replace HO258 := aM (xM (ok' := fun k_ => some k_ ≠ oB Ao41 t230.length co41 ∧ some k_ ≠ oB Ao49 t238.length co49 ∧ some k_ ≠ oB Ao61 t247.length co61) (Kd.R_keptB ((Kd.R_apart' HO258.out (Kd.R_typed p3'.out) (by decide))) hkp (fun k_ hk_ hs_ => Or.elim hs_ (fun e_ => (hk_.1.1.2) e_) (fun e_ => (hk_.2) e_))) (fun k_ hk_ => ⟨hk_.1.1.1.1.2, hk_.1.1.1.2, hk_.1.1.2⟩)); replace p3' := aM (Kd.R_reok rfl hy1 (fun k_ e_ => p3'.out.1 k_ e_)); replace HO261 := aM (xM (ok' := fun k_ => some k_ ≠ oB Ao43 t233.length co43 ∧ some k_ ≠ oB Ao54 t241.length co54 ∧ some k_ ≠ oB Ao63 t250.length co63) (Kd.R_keptB ((Kd.R_apart' HO261.out (Kd.R_typed p2'.out) (by decide))) hkp (fun k_ hk_ hs_ => Or.elim hs_ (fun e_ => (hk_.2) e_) (fun e_ => (hk_.1.1.2) e_))) (fun k_ hk_ => ⟨hk_.1.1.1.1.2, hk_.1.1.1.2, hk_.1.1.2⟩)); replace p2' := aM (Kd.R_reok rfl hy0 (fun k_ e_ => p2'.out.1 k_ e_)); replace HB := aM (hb); (try clear hb); (try clear hkp); (try clear hy0); (try clear hy1)))
       (try simp only [Act.put, qA, qB, qC])
       go_cut [72] (fun v72 wc => ∃ (kq : Nat) (x72_91 : Bool), v72 = .bool x72_91 ∧ Aside0 (laws_FnExactWriteSector.j1 kq t236 x72_91 l0_0 l0_1 a1_0 a1_1 t230 t233 t247 t250 = some r) ∧ Aside0 (kq ≤ kj24) ∧ Aside0 (Kd.R Kd.string 9 wc w.heap.size (fun k_ => some k_ ≠ oB Ao49 t238.length co49 ∧ some k_ ≠ oB Ao61 t247.length co61) (.slice Ao41 t230.length co41) t230) ∧ Aside0 (Kd.R k42 42 wc w.heap.size (fun k_ => some k_ ≠ oB Ao54 t241.length co54 ∧ some k_ ≠ oB Ao63 t250.length co63) (.slice Ao43 t233.length co43) t233) ∧ Aside0 (Kd.R Kd.string 9 wc w.heap.size (fun k_ => some k_ ≠ oB Ao41 t230.length co41 ∧ some k_ ≠ oB Ao61 t247.length co61) (.slice Ao49 t238.length co49) t264) ∧ Aside0 (Kd.R k42 42 wc w.heap.size (fun k_ => some k_ ≠ oB Ao43 t233.length co43 ∧ some k_ ≠ oB Ao63 t250.length co63) (.slice Ao54 t241.length co54) t265) ∧ Aside0 (Kd.R Kd.string 9 wc w.heap.size (fun k_ => some k_ ≠ oB Ao41 t230.length co41 ∧ some k_ ≠ oB Ao49 t238.length co49) (.slice Ao61 t247.length co61) t247) ∧ Aside0 (Kd.R k42 42 wc w.heap.size (fun k_ => some k_ ≠ oB Ao43 t233.length co43 ∧ some k_ ≠ oB Ao54 t241.length co54) (.slice Ao63 t250.length co63) t250) ∧ Aside0 (wc.heap[gb218]? = some (.cells #[(.slice A0_0 l0_0.length c0_0), (.slice A0_1 l0_1.length c0_1)] 25 (0, 0))) ∧ Aside0 (wc.heap[gb219]? = some (.cells #[.int .i64 a1_0, .string a1_1] 38 (0, 0))) ∧ Aside0 (wc.heap[gb237]? = some (.cells #[(.slice Ao41 t230.length co41), (.slice Ao43 t233.length co43)] 30 (0, 0))) ∧ Aside0 (wc.heap[gb244]? = some (.cells #[(.slice Ao49 t238.length co49), (.slice Ao54 t241.length co54)] 30 (0, 0))) ∧ Aside0 (wc.heap[gb254]? = some (.cells #[(.slice Ao61 t247.length co61), (.slice Ao63 t250.length co63)] 30 (0, 0))) ∧ Aside0 (Below w.heap.size w wc))
       case first =>
        have H := HC92.out
        clear HC92
        by_cases c104 : t263 < 0
        ·rw [if_pos c104] at H
         have c104b0 : decide (t263 < 0) = true := decide_eq_true c104
         clear c104
         (first | rw [c104b0] | (simp only [i64_w, i32_w]; rw [c104b0]) | skip)
         have H' := aM H
         clear H
         go_wp2
         go_meet
         case rel => exact ⟨_, (true), (by first | rfl | (simp; done) | (simp [*]; done)), H', ⟨by have := HJ24.out; first | omega | exact Nat.le_refl _⟩, ⟨xH (xM p0'.out (fun _ hk => ⟨hk.1, hk.2.1⟩))⟩, ⟨xH (xM p1'.out (fun _ hk => ⟨hk.1, hk.2.1⟩))⟩, ⟨xH (xM p2'.out (fun _ hk => ⟨hk.1.1, hk.1.2⟩))⟩, ⟨xH (xM p3'.out (fun _ hk => ⟨hk.1.1, hk.1.2⟩))⟩, ⟨xH (xM p4'.out (fun _ hk => ⟨hk.1, hk.2.1⟩))⟩, ⟨xH (xM p5'.out (fun _ hk => ⟨hk.1, hk.2.1⟩))⟩, ⟨yH BK218.out⟩, ⟨yH BK219.out⟩, ⟨yH BK237.out⟩, ⟨yH BK244.out⟩, ⟨yH BK254.out⟩, ⟨zH HB.out⟩⟩
        ·rw [if_neg c104] at H
         have c104b0 : decide (t263 < 0) = false := decide_eq_false c104
         clear c104
         (first | rw [c104b0] | (simp only [i64_w, i32_w]; rw [c104b0]) | skip)
         replace H := Option.bind_eq_some_iff.mp H
         obtain ⟨t266, A1050, H⟩ := H
         replace H : (if t266 = true then (laws_FnExactWriteSector.j1 kj24 t236 (t253 != t236) l0_0 l0_1 a1_0 a1_1 t230 t233 t247 t250) else (laws_FnExactWriteSector.j1 kj24 t236 true l0_0 l0_1 a1_0 a1_1 t230 t233 t247 t250)) = some r := H
         have A105 := aM A1050
         clear A1050
         by_cases c106 : t266 = true
         ·subst c106
          have H1 : (laws_FnExactWriteSector.j1 kj24 t236 (t253 != t236) l0_0 l0_1 a1_0 a1_1 t230 t233 t247 t250) = some r := by rw [if_pos rfl] at H; exact H
          clear H
          have H := H1
          clear H1
          have H' := aM H
          clear H
          have hnb107 := NB254_218.out
          have hnc107 := NB218_254.out
          have hnb108 := NB254_219.out
          have hnc108 := NB219_254.out
          have hnb109 := NB254_237.out
          have hnc109 := NB237_254.out
          have hnb110 := NB254_244.out
          have hnc110 := NB244_254.out
          have hcz111_0 : w103.cell? ⟨gb254, 0, none⟩ = some (.slice Ao61 t247.length co61) := yc BK254.out 0
          have hcz111_1 : w103.cell? ⟨gb254, 1, none⟩ = some (.slice Ao63 t250.length co63) := yc BK254.out 1
          have hfz111_0 := yZ BK254.out 0
          have hfz111_1 := yZ BK254.out 1
          have hnb112 := NB237_218.out
          have hnc112 := NB218_237.out
          have hnb113 := NB237_219.out
          have hnc113 := NB219_237.out
          have hnb114 := NB237_244.out
          have hnc114 := NB244_237.out
          have hcz115_0 : w103.cell? ⟨gb237, 0, none⟩ = some (.slice Ao41 t230.length co41) := yc BK237.out 0
          have hcz115_1 : w103.cell? ⟨gb237, 1, none⟩ = some (.slice Ao43 t233.length co43) := yc BK237.out 1
          have hfz115_0 := yZ BK237.out 0
          have hfz115_1 := yZ BK237.out 1
          go_wp2_with (first | (go_at_call 17; (with_reducible refine (laws_eqDevice.calls kj24 _ _ t247 _ _ t250 _ _ t230 _ _ t233 true _ ?side1 ?side2 ?side3 ?side4 ?side5 ?side6 ?side7 ?side8 A105.out).mono ?_); (case side1 => repeat (first | exact (Kd.R_reads' p4'.out).2.2 | (with_reducible refine cA ?_ _) | (with_reducible refine cN ?_ _) | (with_reducible refine cD ?_))); (case side2 => exact (Kd.R_reads' p4'.out).2.1); (case side3 => repeat (first | exact (Kd.R_reads' p5'.out).2.2 | (with_reducible refine cA ?_ _) | (with_reducible refine cN ?_ _) | (with_reducible refine cD ?_))); (case side4 => exact (Kd.R_reads' p5'.out).2.1); (case side5 => repeat (first | exact (Kd.R_reads' p0'.out).2.2 | (with_reducible refine cA ?_ _) | (with_reducible refine cN ?_ _) | (with_reducible refine cD ?_))); (case side6 => exact (Kd.R_reads' p0'.out).2.1); (case side7 => repeat (first | exact (Kd.R_reads' p1'.out).2.2 | (with_reducible refine cA ?_ _) | (with_reducible refine cN ?_ _) | (with_reducible refine cD ?_))); (case side8 => exact (Kd.R_reads' p1'.out).2.1); rintro e w116 ⟨rfl, hb⟩; replace p0' := xK p0'.out hb; replace p1' := xK p1'.out hb; replace p2' := xK p2'.out hb; replace p3' := xK p3'.out hb; replace p4' := xK p4'.out hb; replace p5' := xK p5'.out hb; replace HO258 := xK HO258.out hb; replace HO261 := xK HO261.out hb; replace BK218 := yK BK218.out hb; replace BK219 := yK BK219.out hb; replace BK237 := yK BK237.out hb; replace BK244 := yK BK244.out hb; replace BK254 := yK BK254.out hb; replace HB := aM (zT (zH HB.out) hb); (try clear hb)))
          go_meet
          case rel => exact ⟨_, ((t253 != t236)), (by first | rfl | (simp; done) | (simp [*]; done)), H', ⟨by have := HJ24.out; first | omega | exact Nat.le_refl _⟩, ⟨xH (xM p0'.out (fun _ hk => ⟨hk.1, hk.2.1⟩))⟩, ⟨xH (xM p1'.out (fun _ hk => ⟨hk.1, hk.2.1⟩))⟩, ⟨xH (xM p2'.out (fun _ hk => ⟨hk.1.1, hk.1.2⟩))⟩, ⟨xH (xM p3'.out (fun _ hk => ⟨hk.1.1, hk.1.2⟩))⟩, ⟨xH (xM p4'.out (fun _ hk => ⟨hk.1, hk.2.1⟩))⟩, ⟨xH (xM p5'.out (fun _ hk => ⟨hk.1, hk.2.1⟩))⟩, ⟨yH BK218.out⟩, ⟨yH BK219.out⟩, ⟨yH BK237.out⟩, ⟨yH BK244.out⟩, ⟨yH BK254.out⟩, ⟨zH HB.out⟩⟩
         ·replace c106 := Bool.eq_false_iff.mpr c106
          subst c106
          have H1 : (laws_FnExactWriteSector.j1 kj24 t236 true l0_0 l0_1 a1_0 a1_1 t230 t233 t247 t250) = some r := by rw [if_neg (show ¬ (false = true) by decide)] at H; exact H
          clear H
          have H := H1
          clear H1
          have H' := aM H
          clear H
          have hnb117 := NB254_218.out
          have hnc117 := NB218_254.out
          have hnb118 := NB254_219.out
          have hnc118 := NB219_254.out
          have hnb119 := NB254_237.out
          have hnc119 := NB237_254.out
          have hnb120 := NB254_244.out
          have hnc120 := NB244_254.out
          have hcz121_0 : w103.cell? ⟨gb254, 0, none⟩ = some (.slice Ao61 t247.length co61) := yc BK254.out 0
          have hcz121_1 : w103.cell? ⟨gb254, 1, none⟩ = some (.slice Ao63 t250.length co63) := yc BK254.out 1
          have hfz121_0 := yZ BK254.out 0
          have hfz121_1 := yZ BK254.out 1
          have hnb122 := NB237_218.out
          have hnc122 := NB218_237.out
          have hnb123 := NB237_219.out
          have hnc123 := NB219_237.out
          have hnb124 := NB237_244.out
          have hnc124 := NB244_237.out
          have hcz125_0 : w103.cell? ⟨gb237, 0, none⟩ = some (.slice Ao41 t230.length co41) := yc BK237.out 0
          have hcz125_1 : w103.cell? ⟨gb237, 1, none⟩ = some (.slice Ao43 t233.length co43) := yc BK237.out 1
          have hfz125_0 := yZ BK237.out 0
          have hfz125_1 := yZ BK237.out 1
          go_wp2_with (first | (go_at_call 17; (with_reducible refine (laws_eqDevice.calls kj24 _ _ t247 _ _ t250 _ _ t230 _ _ t233 false _ ?side1 ?side2 ?side3 ?side4 ?side5 ?side6 ?side7 ?side8 A105.out).mono ?_); (case side1 => repeat (first | exact (Kd.R_reads' p4'.out).2.2 | (with_reducible refine cA ?_ _) | (with_reducible refine cN ?_ _) | (with_reducible refine cD ?_))); (case side2 => exact (Kd.R_reads' p4'.out).2.1); (case side3 => repeat (first | exact (Kd.R_reads' p5'.out).2.2 | (with_reducible refine cA ?_ _) | (with_reducible refine cN ?_ _) | (with_reducible refine cD ?_))); (case side4 => exact (Kd.R_reads' p5'.out).2.1); (case side5 => repeat (first | exact (Kd.R_reads' p0'.out).2.2 | (with_reducible refine cA ?_ _) | (with_reducible refine cN ?_ _) | (with_reducible refine cD ?_))); (case side6 => exact (Kd.R_reads' p0'.out).2.1); (case side7 => repeat (first | exact (Kd.R_reads' p1'.out).2.2 | (with_reducible refine cA ?_ _) | (with_reducible refine cN ?_ _) | (with_reducible refine cD ?_))); (case side8 => exact (Kd.R_reads' p1'.out).2.1); rintro e w126 ⟨rfl, hb⟩; replace p0' := xK p0'.out hb; replace p1' := xK p1'.out hb; replace p2' := xK p2'.out hb; replace p3' := xK p3'.out hb; replace p4' := xK p4'.out hb; replace p5' := xK p5'.out hb; replace HO258 := xK HO258.out hb; replace HO261 := xK HO261.out hb; replace BK218 := yK BK218.out hb; replace BK219 := yK BK219.out hb; replace BK237 := yK BK237.out hb; replace BK244 := yK BK244.out hb; replace BK254 := yK BK254.out hb; replace HB := aM (zT (zH HB.out) hb); (try clear hb)))
          go_meet
          case rel => exact ⟨_, (true), (by first | rfl | (simp; done) | (simp [*]; done)), H', ⟨by have := HJ24.out; first | omega | exact Nat.le_refl _⟩, ⟨xH (xM p0'.out (fun _ hk => ⟨hk.1, hk.2.1⟩))⟩, ⟨xH (xM p1'.out (fun _ hk => ⟨hk.1, hk.2.1⟩))⟩, ⟨xH (xM p2'.out (fun _ hk => ⟨hk.1.1, hk.1.2⟩))⟩, ⟨xH (xM p3'.out (fun _ hk => ⟨hk.1.1, hk.1.2⟩))⟩, ⟨xH (xM p4'.out (fun _ hk => ⟨hk.1, hk.2.1⟩))⟩, ⟨xH (xM p5'.out (fun _ hk => ⟨hk.1, hk.2.1⟩))⟩, ⟨yH BK218.out⟩, ⟨yH BK219.out⟩, ⟨yH BK237.out⟩, ⟨yH BK244.out⟩, ⟨yH BK254.out⟩, ⟨zH HB.out⟩⟩
       case rest =>
        clear HC92
        (try clear c1); (try clear c2); (try clear p2); (try clear c6); (try clear c7); (try clear c8); (try clear c9); (try clear c10); (try clear c11); (try clear c12); (try clear c15); (try clear c17); (try clear c24); (try clear c25); (try clear c26); (try clear c66); (try clear c67); (try clear c68); (try clear c69); (try clear c70); (try clear c72); (try clear c73); (try clear c74); (try clear c77); (try clear c78); (try clear c79); (try clear c80); (try clear c82); (try clear c83); (try clear c84); (try clear c87); (try clear c90); (try clear c98); (try clear c99); (try clear c100); (try clear c101); (try clear c104); (try clear c104b0); (try clear c106); (try clear c107); (try clear c108); (try clear c109); (try clear c110); (try clear c112); (try clear c113); (try clear c114); (try clear c117); (try clear c118); (try clear c119); (try clear c120); (try clear c122); (try clear c123); (try clear c124); (try clear hcz102_0); (try clear hcz102_1); (try clear hcz111_0); (try clear hcz111_1); (try clear hcz115_0); (try clear hcz115_1); (try clear hcz121_0); (try clear hcz121_1); (try clear hcz125_0); (try clear hcz125_1); (try clear hcz71_0); (try clear hcz71_1); (try clear hcz75_0); (try clear hcz75_1); (try clear hcz81_0); (try clear hcz81_1); (try clear hcz85_0); (try clear hcz85_1); (try clear hfz102_0); (try clear hfz102_1); (try clear hfz111_0); (try clear hfz111_1); (try clear hfz115_0); (try clear hfz115_1); (try clear hfz121_0); (try clear hfz121_1); (try clear hfz125_0); (try clear hfz125_1); (try clear hfz71_0); (try clear hfz71_1); (try clear hfz75_0); (try clear hfz75_1); (try clear hfz81_0); (try clear hfz81_1); (try clear hfz85_0); (try clear hfz85_1); (try clear p2)
        obtain ⟨kq, x72_91, rfl, HA, HJ91, p0', p1', p2', p3', p4', p5', BK218, BK219, BK237, BK244, BK254, HB⟩ := hcut
        have hl245000_91 := (Kd.R_reads' p2'.out).1
        rw [hl245000_91] at p2'
        (try simp only [hl245000_91])
        (try simp only [hl245000_91] at BK218)
        (try simp only [hl245000_91] at BK219)
        (try simp only [hl245000_91] at BK237)
        (try simp only [hl245000_91] at BK244)
        (try simp only [hl245000_91] at BK254)
        (try simp only [hl245000_91] at p0')
        (try simp only [hl245000_91] at p1')
        (try simp only [hl245000_91] at p3')
        (try simp only [hl245000_91] at p4')
        (try simp only [hl245000_91] at p5')
        have hl245001_91 := (Kd.R_reads' p3'.out).1
        rw [hl245001_91] at p3'
        (try simp only [hl245001_91])
        (try simp only [hl245001_91] at BK218)
        (try simp only [hl245001_91] at BK219)
        (try simp only [hl245001_91] at BK237)
        (try simp only [hl245001_91] at BK244)
        (try simp only [hl245001_91] at BK254)
        (try simp only [hl245001_91] at p0')
        (try simp only [hl245001_91] at p1')
        (try simp only [hl245001_91] at p2')
        (try simp only [hl245001_91] at p4')
        (try simp only [hl245001_91] at p5')
        cases kq with
        | zero => exact absurd HA.out (fun h_ => by change none = some _ at h_; cases h_)
        | succ kj91 =>
         have H := HA.out
         clear HA
         simp only [laws_FnExactWriteSector.j1] at H
         by_cases c127 : x72_91 = true
         ·subst c127
          have H1 : (some false) = some r := by rw [if_pos rfl] at H; exact H
          clear H
          have H := H1
          clear H1
          exact absurd (H.trans (congrArg some HR_.out)) (by decide)
         ·replace c127 := Bool.eq_false_iff.mpr c127
          subst c127
          have H1 : ((laws_markDevice.f kj91 t247 t250 1).bind fun bt267 => ((laws_heldDevice.f kj91 bt267.2.1 bt267.2.2 1).bind fun t270 => (if t270 < 0 then (some false) else (if t270 = bt267.1 then ((laws_toDevice.f kj91 l0_0 l0_1).bind fun bt271 => ((laws_toWrite.f a1_0 a1_1).bind fun bt277 => ((impl_WriteSector.f bt271.1 bt271.2 bt277.1 bt277.2).bind fun bt279 => ((laws_eqDevice.f kj91 bt279.1 bt279.2.1 t230 t233).bind fun t287 => (if t287 = true then (laws_FnExactWriteSector.j2 kj91 bt267.1 (bt279.2.2 != t236) bt267.2.1 bt267.2.2) else (laws_FnExactWriteSector.j2 kj91 bt267.1 true bt267.2.1 bt267.2.2)))))) else (some false))))) = some r := by rw [if_neg (show ¬ (false = true) by decide)] at H; exact H
          clear H
          have H := H1
          clear H1
          replace H := Option.bind_eq_some_iff.mp H
          obtain ⟨⟨t267, t268, t269⟩, A1280, H⟩ := H
          replace H : ((laws_heldDevice.f kj91 t268 t269 1).bind fun t270 => (if t270 < 0 then (some false) else (if t270 = t267 then ((laws_toDevice.f kj91 l0_0 l0_1).bind fun bt271 => ((laws_toWrite.f a1_0 a1_1).bind fun bt277 => ((impl_WriteSector.f bt271.1 bt271.2 bt277.1 bt277.2).bind fun bt279 => ((laws_eqDevice.f kj91 bt279.1 bt279.2.1 t230 t233).bind fun t287 => (if t287 = true then (laws_FnExactWriteSector.j2 kj91 t267 (bt279.2.2 != t236) t268 t269) else (laws_FnExactWriteSector.j2 kj91 t267 true t268 t269)))))) else (some false)))) = some r := H
          have A128 := aM A1280
          clear A1280
          replace H := Option.bind_eq_some_iff.mp H
          obtain ⟨t270, A1290, H⟩ := H
          replace H : (if t270 < 0 then (some false) else (if t270 = t267 then ((laws_toDevice.f kj91 l0_0 l0_1).bind fun bt271 => ((laws_toWrite.f a1_0 a1_1).bind fun bt277 => ((impl_WriteSector.f bt271.1 bt271.2 bt277.1 bt277.2).bind fun bt279 => ((laws_eqDevice.f kj91 bt279.1 bt279.2.1 t230 t233).bind fun t287 => (if t287 = true then (laws_FnExactWriteSector.j2 kj91 t267 (bt279.2.2 != t236) t268 t269) else (laws_FnExactWriteSector.j2 kj91 t267 true t268 t269)))))) else (some false))) = some r := H
          have A129 := aM A1290
          clear A1290
          by_cases c130 : t270 < 0
          ·rw [if_pos c130] at H
           have c130b0 : decide (t270 < 0) = true := decide_eq_true c130
           clear c130
           obtain rfl := Option.some.inj H
           have hnb131 := NB254_218.out
           have hnc131 := NB218_254.out
           have hnb132 := NB254_219.out
           have hnc132 := NB219_254.out
           have hnb133 := NB254_237.out
           have hnc133 := NB237_254.out
           have hnb134 := NB254_244.out
           have hnc134 := NB244_254.out
           have hcz135_0 : wc.cell? ⟨gb254, 0, none⟩ = some (.slice Ao61 t247.length co61) := yc BK254.out 0
           have hcz135_1 : wc.cell? ⟨gb254, 1, none⟩ = some (.slice Ao63 t250.length co63) := yc BK254.out 1
           have hfz135_0 := yZ BK254.out 0
           have hfz135_1 := yZ BK254.out 1
           go_wp2_with (first | ((with_reducible refine gate_callee (f := 26) rfl ?_); refine goesL_ (some 75) rfl rfl Try.func26 (by kernel_rfl) rfl #[.agg #[.slice Ao61 t247.length co61, .slice Ao63 t250.length co63], .int .i64 1] rfl (by (try simp only [List.map_toArray, List.map_cons, List.map_nil]); first | done | rfl | (simp only [List.length_drop, List.length_take]; rfl)) ?_; (with_reducible refine (laws_markDevice.calls kj91 (fun k_ => some k_ = oB Ao61 t247.length co61) (.slice Ao61 t247.length co61) t247 (fun k_ => some k_ = oB Ao63 t250.length co63) (.slice Ao63 t250.length co63) t250 1 t267 t268 t269 w _ ?side1 ?side2 ?side3 A128.out).mono ?_); (case side1 => repeat (first | (with_reducible first | exact HB.out | apply zA | apply zN | apply zD | refine zS ?_ GE218.out | refine zS ?_ GE219.out | refine zS ?_ GE237.out | refine zS ?_ GE244.out | refine zS ?_ GE254.out) | exact HB.out)); (case side2 => exact Kd.R_tight rfl p4'.out); (case side3 => exact Kd.R_tight rfl p5'.out); rintro e w136 ⟨rfl, hy0, hy1, hb, hkp⟩; refine ⟨_, rfl, ?_⟩; replace p0' := aM (xM (ok' := fun k_ => some k_ ≠ oB Ao49 t264.length co49 ∧ some k_ ≠ oB Ao61 t247.length co61) (Kd.R_keptB ((Kd.R_apart' p0'.out (Kd.R_typed p5'.out) (by decide))) hkp (fun k_ hk_ hs_ => Or.elim hs_ (fun e_ => (hk_.1.2) e_) (fun e_ => (hk_.2) e_))) (fun k_ hk_ => ⟨hk_.1.1.1, hk_.1.1.2⟩)); replace p1' := aM (xM (ok' := fun k_ => some k_ ≠ oB Ao54 t265.length co54 ∧ some k_ ≠ oB Ao63 t250.length co63) (Kd.R_keptB ((Kd.R_apart' p1'.out (Kd.R_typed p4'.out) (by decide))) hkp (fun k_ hk_ hs_ => Or.elim hs_ (fun e_ => (hk_.2) e_) (fun e_ => (hk_.1.2) e_))) (fun k_ hk_ => ⟨hk_.1.1.1, hk_.1.1.2⟩)); replace p2' := aM (xM (ok' := fun k_ => some k_ ≠ oB Ao41 t230.length co41 ∧ some k_ ≠ oB Ao61 t247.length co61) (Kd.R_keptB ((Kd.R_apart' p2'.out (Kd.R_typed p5'.out) (by decide))) hkp (fun k_ hk_ hs_ => Or.elim hs_ (fun e_ => (hk_.1.2) e_) (fun e_ => (hk_.2) e_))) (fun k_ hk_ => ⟨hk_.1.1.1, hk_.1.1.2⟩)); replace p3' := aM (xM (ok' := fun k_ => some k_ ≠ oB Ao43 t233.length co43 ∧ some k_ ≠ oB Ao63 t250.length co63) (Kd.R_keptB ((Kd.R_apart' p3'.out (Kd.R_typed p4'.out) (by decide))) hkp (fun k_ hk_ hs_ => Or.elim hs_ (fun e_ => (hk_.2) e_) (fun e_ => (hk_.1.2) e_))) (fun k_ hk_ => ⟨hk_.1.1.1, hk_.1.1.2⟩)); replace BK218 := aM (blk_kept BK218.out hkp (fun hs_ => Or.elim hs_ (fun e_ => (fun e_ => (Kd.R_ne p4'.out BK218.out (by decide)) e_) e_) (fun e_ => (fun e_ => (Kd.R_ne p5'.out BK218.out (by decide)) e_) e_))); replace BK219 := aM (blk_kept BK219.out hkp (fun hs_ => Or.elim hs_ (fun e_ => (fun e_ => (Kd.R_ne p4'.out BK219.out (by decide)) e_) e_) (fun e_ => (fun e_ => (Kd.R_ne p5'.out BK219.out (by decide)) e_) e_))); replace BK237 := aM (blk_kept BK237.out hkp (fun hs_ => Or.elim hs_ (fun e_ => (fun e_ => (Kd.R_ne p4'.out BK237.out (by decide)) e_) e_) (fun e_ => (fun e_ => (Kd.R_ne p5'.out BK237.out (by decide)) e_) e_))); replace BK244 := aM (blk_kept BK244.out hkp (fun hs_ => Or.elim hs_ (fun e_ => (fun e_ => (Kd.R_ne p4'.out BK244.out (by decide)) e_) e_) (fun e_ => (fun e_ => (Kd.R_ne p5'.out BK244.out (by decide)) e_) e_))); replace BK254 := aM (blk_kept BK254.out hkp (fun hs_ => Or.elim hs_ (fun e_ => (fun e_ => (Kd.R_ne p4'.out BK254.out (by decide)) e_) e_) (fun e_ => (fun e_ => (Kd.R_ne p5'.out BK254.out (by decide)) e_) e_))); replace p4' := aM (Kd.R_reok rfl hy0 (fun k_ e_ => p4'.out.1 k_ e_)); replace p5' := aM (Kd.R_reok rfl hy1 (fun k_ e_ => p5'.out.1 k_ e_)); replace HB := aM (hb); (try clear hb); (try clear hkp); (try clear hy0); (try clear hy1); have hcz137_0 : w136.cell? ⟨gb254, 0, none⟩ = some (.slice Ao61 t247.length co61) := yc BK254.out 0; have hcz137_1 : w136.cell? ⟨gb254, 1, none⟩ = some (.slice Ao63 t250.length co63) := yc BK254.out 1; have hfz137_0 := yZ BK254.out 0; have hfz137_1 := yZ BK254.out 1) | ((with_reducible refine gate_callee (f := 27) rfl ?_); refine goesL_ (some 78) rfl rfl Try.func27 (by kernel_rfl) rfl #[.agg #[.slice Ao61 t268.length co61, .slice Ao63 t269.length co63], .int .i64 1] rfl (by (try simp only [List.map_toArray, List.map_cons, List.map_nil]); first | done | (rw [show t268.length = t247.length from (Kd.R_reads' p4'.out).1.symm, show t269.length = t250.length from (Kd.R_reads' p5'.out).1.symm] <;> rfl) | rfl | (simp only [List.length_drop, List.length_take]; rfl)) ?_; (with_reducible refine (laws_heldDevice.calls kj91 _ _ t268 _ _ t269 1 t270 _ ?side1 ?side2 ?side3 ?side4 A129.out).mono ?_); (case side1 => repeat (first | exact (Kd.R_reads' p4'.out).2.2 | (with_reducible refine cA ?_ _) | (with_reducible refine cN ?_ _) | (with_reducible refine cD ?_))); (case side2 => rw [show t268.length = t247.length from (Kd.R_reads' p4'.out).1.symm]; exact (Kd.R_reads' p4'.out).2.1); (case side3 => repeat (first | exact (Kd.R_reads' p5'.out).2.2 | (with_reducible refine cA ?_ _) | (with_reducible refine cN ?_ _) | (with_reducible refine cD ?_))); (case side4 => rw [show t269.length = t250.length from (Kd.R_reads' p5'.out).1.symm]; exact (Kd.R_reads' p5'.out).2.1); rintro e w138 ⟨rfl, hb⟩; refine ⟨_, rfl, ?_⟩; replace p0' := xK p0'.out hb; replace p1' := xK p1'.out hb; replace p2' := xK p2'.out hb; replace p3' := xK p3'.out hb; replace p4' := xK p4'.out hb; replace p5' := xK p5'.out hb; replace BK218 := yK BK218.out hb; replace BK219 := yK BK219.out hb; replace BK237 := yK BK237.out hb; replace BK244 := yK BK244.out hb; replace BK254 := yK BK254.out hb; replace HB := aM (zT (zH HB.out) hb); (try clear hb)))
           go_ret
           exact ⟨by first | rfl | (simp [errW_none, errW_some] <;> rfl) | (simp [*, errW_none, errW_some] <;> rfl), zH HB.out⟩
          ·rw [if_neg c130] at H
           have c130b0 : decide (t270 < 0) = false := decide_eq_false c130
           clear c130
           by_cases c139 : t270 = t267
           ·rw [if_pos c139] at H
            have c139b0 : (t270 == t267) = true := beq_iff_eq.mpr c139
            have c139b1 : (t270 != t267) = false := bne_eq_false_iff_eq.mpr c139
            clear c139
            replace H := Option.bind_eq_some_iff.mp H
            obtain ⟨⟨t271, t274⟩, A1400, H⟩ := H
            replace H : ((laws_toWrite.f a1_0 a1_1).bind fun bt277 => ((impl_WriteSector.f t271 t274 bt277.1 bt277.2).bind fun bt279 => ((laws_eqDevice.f kj91 bt279.1 bt279.2.1 t230 t233).bind fun t287 => (if t287 = true then (laws_FnExactWriteSector.j2 kj91 t267 (bt279.2.2 != t236) t268 t269) else (laws_FnExactWriteSector.j2 kj91 t267 true t268 t269))))) = some r := H
            have A140 := aM A1400
            clear A1400
            replace H := Option.bind_eq_some_iff.mp H
            obtain ⟨⟨t277, t278⟩, A1410, H⟩ := H
            replace H : ((impl_WriteSector.f t271 t274 t277 t278).bind fun bt279 => ((laws_eqDevice.f kj91 bt279.1 bt279.2.1 t230 t233).bind fun t287 => (if t287 = true then (laws_FnExactWriteSector.j2 kj91 t267 (bt279.2.2 != t236) t268 t269) else (laws_FnExactWriteSector.j2 kj91 t267 true t268 t269)))) = some r := H
            have A141 := aM A1410
            clear A1410
            replace H := Option.bind_eq_some_iff.mp H
            obtain ⟨⟨t279, t282, t285⟩, A1420, H⟩ := H
            replace H : ((laws_eqDevice.f kj91 t279 t282 t230 t233).bind fun t287 => (if t287 = true then (laws_FnExactWriteSector.j2 kj91 t267 (t285 != t236) t268 t269) else (laws_FnExactWriteSector.j2 kj91 t267 true t268 t269))) = some r := H
            have A142 := aM A1420
            clear A1420
            have HC143 := aM H
            clear H
            have hnb144 := NB254_218.out
            have hnc144 := NB218_254.out
            have hnb145 := NB254_219.out
            have hnc145 := NB219_254.out
            have hnb146 := NB254_237.out
            have hnc146 := NB237_254.out
            have hnb147 := NB254_244.out
            have hnc147 := NB244_254.out
            have hcz148_0 : wc.cell? ⟨gb254, 0, none⟩ = some (.slice Ao61 t247.length co61) := yc BK254.out 0
            have hcz148_1 : wc.cell? ⟨gb254, 1, none⟩ = some (.slice Ao63 t250.length co63) := yc BK254.out 1
            have hfz148_0 := yZ BK254.out 0
            have hfz148_1 := yZ BK254.out 1
            try go_wp2_with (first | ((with_reducible refine gate_callee (f := 26) rfl ?_); refine goesL_ (some 75) rfl rfl Try.func26 (by kernel_rfl) rfl #[.agg #[.slice Ao61 t247.length co61, .slice Ao63 t250.length co63], .int .i64 1] rfl (by (try simp only [List.map_toArray, List.map_cons, List.map_nil]); first | done | rfl | (simp only [List.length_drop, List.length_take]; rfl)) ?_; (with_reducible refine (laws_markDevice.calls kj91 (fun k_ => some k_ = oB Ao61 t247.length co61) (.slice Ao61 t247.length co61) t247 (fun k_ => some k_ = oB Ao63 t250.length co63) (.slice Ao63 t250.length co63) t250 1 t267 t268 t269 w _ ?side1 ?side2 ?side3 A128.out).mono ?_); (case side1 => repeat (first | (with_reducible first | exact HB.out | apply zA | apply zN | apply zD | refine zS ?_ GE218.out | refine zS ?_ GE219.out | refine zS ?_ GE237.out | refine zS ?_ GE244.out | refine zS ?_ GE254.out) | exact HB.out)); (case side2 => exact Kd.R_tight rfl p4'.out); (case side3 => exact Kd.R_tight rfl p5'.out); rintro e w149 ⟨rfl, hy0, hy1, hb, hkp⟩; refine ⟨_, rfl, ?_⟩; replace p0' := aM (xM (ok' := fun k_ => some k_ ≠ oB Ao49 t264.length co49 ∧ some k_ ≠ oB Ao61 t247.length co61) (Kd.R_keptB ((Kd.R_apart' p0'.out (Kd.R_typed p5'.out) (by decide))) hkp (fun k_ hk_ hs_ => Or.elim hs_ (fun e_ => (hk_.1.2) e_) (fun e_ => (hk_.2) e_))) (fun k_ hk_ => ⟨hk_.1.1.1, hk_.1.1.2⟩)); replace p1' := aM (xM (ok' := fun k_ => some k_ ≠ oB Ao54 t265.length co54 ∧ some k_ ≠ oB Ao63 t250.length co63) (Kd.R_keptB ((Kd.R_apart' p1'.out (Kd.R_typed p4'.out) (by decide))) hkp (fun k_ hk_ hs_ => Or.elim hs_ (fun e_ => (hk_.2) e_) (fun e_ => (hk_.1.2) e_))) (fun k_ hk_ => ⟨hk_.1.1.1, hk_.1.1.2⟩)); replace p2' := aM (xM (ok' := fun k_ => some k_ ≠ oB Ao41 t230.length co41 ∧ some k_ ≠ oB Ao61 t247.length co61) (Kd.R_keptB ((Kd.R_apart' p2'.out (Kd.R_typed p5'.out) (by decide))) hkp (fun k_ hk_ hs_ => Or.elim hs_ (fun e_ => (hk_.1.2) e_) (fun e_ => (hk_.2) e_))) (fun k_ hk_ => ⟨hk_.1.1.1, hk_.1.1.2⟩)); replace p3' := aM (xM (ok' := fun k_ => some k_ ≠ oB Ao43 t233.length co43 ∧ some k_ ≠ oB Ao63 t250.length co63) (Kd.R_keptB ((Kd.R_apart' p3'.out (Kd.R_typed p4'.out) (by decide))) hkp (fun k_ hk_ hs_ => Or.elim hs_ (fun e_ => (hk_.2) e_) (fun e_ => (hk_.1.2) e_))) (fun k_ hk_ => ⟨hk_.1.1.1, hk_.1.1.2⟩)); replace BK218 := aM (blk_kept BK218.out hkp (fun hs_ => Or.elim hs_ (fun e_ => (fun e_ => (Kd.R_ne p4'.out BK218.out (by decide)) e_) e_) (fun e_ => (fun e_ => (Kd.R_ne p5'.out BK218.out (by decide)) e_) e_))); replace BK219 := aM (blk_kept BK219.out hkp (fun hs_ => Or.elim hs_ (fun e_ => (fun e_ => (Kd.R_ne p4'.out BK219.out (by decide)) e_) e_) (fun e_ => (fun e_ => (Kd.R_ne p5'.out BK219.out (by decide)) e_) e_))); replace BK237 := aM (blk_kept BK237.out hkp (fun hs_ => Or.elim hs_ (fun e_ => (fun e_ => (Kd.R_ne p4'.out BK237.out (by decide)) e_) e_) (fun e_ => (fun e_ => (Kd.R_ne p5'.out BK237.out (by decide)) e_) e_))); replace BK244 := aM (blk_kept BK244.out hkp (fun hs_ => Or.elim hs_ (fun e_ => (fun e_ => (Kd.R_ne p4'.out BK244.out (by decide)) e_) e_) (fun e_ => (fun e_ => (Kd.R_ne p5'.out BK244.out (by decide)) e_) e_))); replace BK254 := aM (blk_kept BK254.out hkp (fun hs_ => Or.elim hs_ (fun e_ => (fun e_ => (Kd.R_ne p4'.out BK254.out (by decide)) e_) e_) (fun e_ => (fun e_ => (Kd.R_ne p5'.out BK254.out (by decide)) e_) e_))); replace p4' := aM (Kd.R_reok rfl hy0 (fun k_ e_ => p4'.out.1 k_ e_)); replace p5' := aM (Kd.R_reok rfl hy1 (fun k_ e_ => p5'.out.1 k_ e_)); replace HB := aM (hb); (try clear hb); (try clear hkp); (try clear hy0); (try clear hy1); have hcz150_0 : w149.cell? ⟨gb254, 0, none⟩ = some (.slice Ao61 t247.length co61) := yc BK254.out 0; have hcz150_1 : w149.cell? ⟨gb254, 1, none⟩ = some (.slice Ao63 t250.length co63) := yc BK254.out 1; have hfz150_0 := yZ BK254.out 0; have hfz150_1 := yZ BK254.out 1) | ((with_reducible refine gate_callee (f := 27) rfl ?_); refine goesL_ (some 78) rfl rfl Try.func27 (by kernel_rfl) rfl #[.agg #[.slice Ao61 t268.length co61, .slice Ao63 t269.length co63], .int .i64 1] rfl (by (try simp only [List.map_toArray, List.map_cons, List.map_nil]); first | done | (rw [show t268.length = t247.length from (Kd.R_reads' p4'.out).1.symm, show t269.length = t250.length from (Kd.R_reads' p5'.out).1.symm] <;> rfl) | rfl | (simp only [List.length_drop, List.length_take]; rfl)) ?_; (with_reducible refine (laws_heldDevice.calls kj91 _ _ t268 _ _ t269 1 t270 _ ?side1 ?side2 ?side3 ?side4 A129.out).mono ?_); (case side1 => repeat (first | exact (Kd.R_reads' p4'.out).2.2 | (with_reducible refine cA ?_ _) | (with_reducible refine cN ?_ _) | (with_reducible refine cD ?_))); (case side2 => rw [show t268.length = t247.length from (Kd.R_reads' p4'.out).1.symm]; exact (Kd.R_reads' p4'.out).2.1); (case side3 => repeat (first | exact (Kd.R_reads' p5'.out).2.2 | (with_reducible refine cA ?_ _) | (with_reducible refine cN ?_ _) | (with_reducible refine cD ?_))); (case side4 => rw [show t269.length = t250.length from (Kd.R_reads' p5'.out).1.symm]; exact (Kd.R_reads' p5'.out).2.1); rintro e w151 ⟨rfl, hb⟩; refine ⟨_, rfl, ?_⟩; replace p0' := xK p0'.out hb; replace p1' := xK p1'.out hb; replace p2' := xK p2'.out hb; replace p3' := xK p3'.out hb; replace p4' := xK p4'.out hb; replace p5' := xK p5'.out hb; replace BK218 := yK BK218.out hb; replace BK219 := yK BK219.out hb; replace BK237 := yK BK237.out hb; replace BK244 := yK BK244.out hb; replace BK254 := yK BK254.out hb; replace HB := aM (zT (zH HB.out) hb); (try clear hb)))
            replace p0' := aM (xD p0'.out)
            replace p1' := aM (xD p1'.out)
            replace p2' := aM (xD p2'.out)
            replace p3' := aM (xD p3'.out)
            replace p4' := aM (xD p4'.out)
            replace p5' := aM (xD p5'.out)
            replace BK218 := aM (yD BK218.out)
            replace BK219 := aM (yD BK219.out)
            replace BK237 := aM (yD BK237.out)
            replace BK244 := aM (yD BK244.out)
            replace BK254 := aM (yD BK254.out)
            replace HB := aM (zD HB.out)
            refine start_ (n := 11) (S := fun w' => w'.cell? ⟨gb218, 0, none⟩ = some (.slice A0_0 l0_0.length c0_0) ∧ w'.cell? ⟨gb218, 1, none⟩ = some (.slice A0_1 l0_1.length c0_1) ∧ w'.cell? ⟨gb219, 0, none⟩ = some (.int .i64 a1_0) ∧ w'.cell? ⟨gb219, 1, none⟩ = some (.string a1_1)) (ds := []) #[fF,fF,fF,fF,fF,fF,fF,fF,fF,fF,fF] (by kernel_rfl) rfl rfl ⟨yc BK218.out 0, yc BK218.out 1, yc BK219.out 0, yc BK219.out 1⟩ (fun hHeld => ?_); refine with_tabW laws_FnExactWriteSector.tab27 laws_FnExactWriteSector.bits27 (fun HT_ HW_ => ?_)
            generalize w151.drew = w152 at p0' p1' p2' p3' p4' p5' BK218 BK219 BK237 BK244 BK254 HB hHeld ⊢
            refine take_ (i := 0) (N := some 85) (v := ?_) (a' := ?_) #[tT,fF,fF,fF,fF,fF,fF,fF,fF,fF,fF] rfl rfl (take_ofW HT_.out HW_.out (by kernel_rfl)) (fun _ _ _ h => h) (Or.inl ⟨by rfl, ?_⟩) hHeld ?_ ?_
            rotate_left
            ·rintro w' ⟨s0, s1, s2, s3⟩
             go_simp
             with_reducible rfl
            rotate_left
            ·simp only [Act.put, qA, qB, qC, i64_w, i32_w]
             rfl
            refine take_ (i := 2) (N := some 87) (v := ?_) (a' := ?_) #[tT,fF,tT,fF,fF,fF,fF,fF,fF,fF,fF] rfl rfl (take_ofW HT_.out HW_.out (by kernel_rfl)) (fun _ _ _ h => h) (Or.inl ⟨by rfl, ?_⟩) hHeld ?_ ?_
            rotate_left
            ·rintro w' ⟨s0, s1, s2, s3⟩
             go_simp
             with_reducible rfl
            rotate_left
            ·simp only [Act.put, qA, qB, qC, i64_w, i32_w]
             rfl
            refine join_ (σ := Value × Value × Value × Value × Nat) 2 #[tT,tT,tT,tT,tT,tT,tT,tT,tT,fF,fF] (fun s_ => [(86, .agg #[s_.1, s_.2.1]), (88, .agg #[.int .i64 t277, .string t278]), (89, .tuple #[.agg #[s_.2.2.1, s_.2.2.2.1], .bool t285]), (14, .pointer (some ⟨s_.2.2.2.2, 0, none⟩)), (84, .tuple #[.agg #[s_.2.2.1, s_.2.2.2.1], .bool t285]), (90, .agg #[s_.2.2.1, s_.2.2.2.1]), (91, .bool t285)]) (fun s_ w' => (w'.cell? ⟨gb218, 0, none⟩ = some (.slice A0_0 l0_0.length c0_0) ∧ w'.cell? ⟨gb218, 1, none⟩ = some (.slice A0_1 l0_1.length c0_1) ∧ w'.cell? ⟨gb219, 0, none⟩ = some (.int .i64 a1_0) ∧ w'.cell? ⟨gb219, 1, none⟩ = some (.string a1_1)) ∧ (Kd.R Kd.string 9 w' w.heap.size (fun k_ => some k_ ≠ (s_.2.2.1 : Value).ownBlock ∧ some k_ ≠ oB Ao41 t230.length co41 ∧ some k_ ≠ oB Ao49 t264.length co49 ∧ some k_ ≠ oB Ao61 t247.length co61) s_.1 t271) ∧ (Kd.R k42 42 w' w.heap.size (fun k_ => some k_ ≠ (s_.2.2.2.1 : Value).ownBlock ∧ some k_ ≠ oB Ao43 t233.length co43 ∧ some k_ ≠ oB Ao54 t265.length co54 ∧ some k_ ≠ oB Ao63 t250.length co63) s_.2.1 t274) ∧ (Kd.R Kd.string 9 w' w.heap.size (fun k_ => some k_ ≠ (s_.1 : Value).ownBlock ∧ some k_ ≠ oB Ao41 t230.length co41 ∧ some k_ ≠ oB Ao49 t264.length co49 ∧ some k_ ≠ oB Ao61 t247.length co61) s_.2.2.1 t279) ∧ (Kd.R k42 42 w' w.heap.size (fun k_ => some k_ ≠ (s_.2.1 : Value).ownBlock ∧ some k_ ≠ oB Ao43 t233.length co43 ∧ some k_ ≠ oB Ao54 t265.length co54 ∧ some k_ ≠ oB Ao63 t250.length co63) s_.2.2.2.1 t282) ∧ (Kd.R Kd.string 9 w' w.heap.size (fun k_ => some k_ ≠ (s_.1 : Value).ownBlock ∧ some k_ ≠ (s_.2.2.1 : Value).ownBlock ∧ some k_ ≠ oB Ao49 t264.length co49 ∧ some k_ ≠ oB Ao61 t247.length co61) (.slice Ao41 t230.length co41) t230) ∧ (Kd.R k42 42 w' w.heap.size (fun k_ => some k_ ≠ (s_.2.1 : Value).ownBlock ∧ some k_ ≠ (s_.2.2.2.1 : Value).ownBlock ∧ some k_ ≠ oB Ao54 t265.length co54 ∧ some k_ ≠ oB Ao63 t250.length co63) (.slice Ao43 t233.length co43) t233) ∧ (Kd.R Kd.string 9 w' w.heap.size (fun k_ => some k_ ≠ (s_.1 : Value).ownBlock ∧ some k_ ≠ (s_.2.2.1 : Value).ownBlock ∧ some k_ ≠ oB Ao41 t230.length co41 ∧ some k_ ≠ oB Ao61 t247.length co61) (.slice Ao49 t264.length co49) t264) ∧ (Kd.R k42 42 w' w.heap.size (fun k_ => some k_ ≠ (s_.2.1 : Value).ownBlock ∧ some k_ ≠ (s_.2.2.2.1 : Value).ownBlock ∧ some k_ ≠ oB Ao43 t233.length co43 ∧ some k_ ≠ oB Ao63 t250.length co63) (.slice Ao54 t265.length co54) t265) ∧ (Kd.R Kd.string 9 w' w.heap.size (fun k_ => some k_ ≠ (s_.1 : Value).ownBlock ∧ some k_ ≠ (s_.2.2.1 : Value).ownBlock ∧ some k_ ≠ oB Ao41 t230.length co41 ∧ some k_ ≠ oB Ao49 t264.length co49) (.slice Ao61 t247.length co61) t268) ∧ (Kd.R k42 42 w' w.heap.size (fun k_ => some k_ ≠ (s_.2.1 : Value).ownBlock ∧ some k_ ≠ (s_.2.2.2.1 : Value).ownBlock ∧ some k_ ≠ oB Ao43 t233.length co43 ∧ some k_ ≠ oB Ao54 t265.length co54) (.slice Ao63 t250.length co63) t269) ∧ (w'.heap[gb218]? = some (.cells #[.slice A0_0 l0_0.length c0_0, .slice A0_1 l0_1.length c0_1] 25 (0, 0))) ∧ (w'.heap[gb219]? = some (.cells #[.int .i64 a1_0, .string a1_1] 38 (0, 0))) ∧ (w'.heap[gb237]? = some (.cells #[.slice Ao41 t230.length co41, .slice Ao43 t233.length co43] 30 (0, 0))) ∧ (w'.heap[gb244]? = some (.cells #[.slice Ao49 t264.length co49, .slice Ao54 t265.length co54] 30 (0, 0))) ∧ (w'.heap[gb254]? = some (.cells #[.slice Ao61 t247.length co61, .slice Ao63 t250.length co63] 30 (0, 0))) ∧ (w'.heap[s_.2.2.2.2]? = some (.cells #[.slice none 0 0, .slice none 0 0] 30 (0, 0))) ∧ (w.heap.size ≤ s_.2.2.2.2) ∧ (w.heap.size ≤ s_.2.2.2.2) ∧ (gb218 ≠ s_.2.2.2.2) ∧ (s_.2.2.2.2 ≠ gb218) ∧ (gb219 ≠ s_.2.2.2.2) ∧ (s_.2.2.2.2 ≠ gb219) ∧ (gb237 ≠ s_.2.2.2.2) ∧ (s_.2.2.2.2 ≠ gb237) ∧ (gb244 ≠ s_.2.2.2.2) ∧ (s_.2.2.2.2 ≠ gb244) ∧ (gb254 ≠ s_.2.2.2.2) ∧ (s_.2.2.2.2 ≠ gb254) ∧ (Below w.heap.size w w')) ?_ ?_
            rotate_left
            ·intro hCont
             refine two_ (i := 1) (j := 8) (Ni := some 86) (Nj := some 14) #[tT,tT,tT,fF,fF,fF,fF,fF,fF,fF,fF] #[tT,fF,tT,fF,fF,fF,fF,fF,tT,fF,fF] rfl rfl rfl rfl (two_of HT_.out (by kernel_rfl)) (by decide) (by decide) (fun K hK => ?_) (fun K hK => ?_)
             ·skip
              refine gS Try.func15 (by kernel_rfl) rfl #[.agg #[.slice A0_0 l0_0.length c0_0, .slice A0_1 l0_1.length c0_1]] (by rfl) rfl rfl ?_
              with_reducible refine (laws_toDevice.calls kj91 _ _ l0_0 _ _ l0_1 t271 t274 _ ?side1 ?side2 ?side3 ?side4 A140.out).mono ?_
              (case side1 => exact cK HR0_0.out HB.out)
              (case side2 => exact HC0_0.out)
              (case side3 => exact cK HR0_1.out HB.out)
              (case side4 => exact HC0_1.out)
              rintro e w153 ⟨v272, v275, rfl, ho0, ho1, hb⟩
              refine ⟨_, rfl, ?_⟩
              have HO273 := aM (xL (Kd.R_new' (Kd.R_new' (Kd.R_new' ho0 (Kd.R_lt (xH p0'.out))) (Kd.R_lt (xH p2'.out))) (Kd.R_lt (xH p4'.out))) (zZ (zH HB.out)))
              replace p0' := aM (Kd.R_elder' (xH p0'.out) (Kd.R_base ho0) hb)
              replace p2' := aM (Kd.R_elder' (xH p2'.out) (Kd.R_base ho0) hb)
              replace p4' := aM (Kd.R_elder' (xH p4'.out) (Kd.R_base ho0) hb)
              have HO276 := aM (xL (Kd.R_new' (Kd.R_new' (Kd.R_new' ho1 (Kd.R_lt (xH p1'.out))) (Kd.R_lt (xH p3'.out))) (Kd.R_lt (xH p5'.out))) (zZ (zH HB.out)))
              replace p1' := aM (Kd.R_elder' (xH p1'.out) (Kd.R_base ho1) hb)
              replace p3' := aM (Kd.R_elder' (xH p3'.out) (Kd.R_base ho1) hb)
              replace p5' := aM (Kd.R_elder' (xH p5'.out) (Kd.R_base ho1) hb)
              replace BK218 := yK BK218.out hb
              replace BK219 := yK BK219.out hb
              replace BK237 := yK BK237.out hb
              replace BK244 := yK BK244.out hb
              replace BK254 := yK BK254.out hb
              replace HB := aM (zT (zH HB.out) hb)
              (try clear hb); (try clear ho0); (try clear ho1)
              refine hK.out _ _ ⟨yc BK218.out 0, yc BK218.out 1, yc BK219.out 0, yc BK219.out 1⟩ (fun hHeld => ?_)
              clear hK K
              refine norm_ (a' := ?_) ?_ ?_
              rotate_left
              ·show Act.put _ (some 86) _ = _
               simp only [Act.put, qA, qB, qC, i64_w, i32_w]
               rfl
              refine two_ (i := 3) (j := 8) (Ni := some 88) (Nj := some 14) #[tT,tT,tT,tT,fF,fF,fF,fF,fF,fF,fF] #[tT,tT,tT,fF,fF,fF,fF,fF,tT,fF,fF] rfl rfl rfl rfl (two_of HT_.out (by kernel_rfl)) (by decide) (by decide) (fun K hK => ?_) (fun K hK => ?_)
              ·skip
               refine gS Try.func24 (by kernel_rfl) rfl #[.agg #[.int .i64 a1_0, .string a1_1]] (by rfl) rfl rfl ?_
               with_reducible refine (laws_toWrite.calls a1_0 a1_1 t277 t278 _ A141.out).mono ?_
               rintro e w154 ⟨rfl, hb⟩
               refine ⟨_, rfl, ?_⟩
               replace p0' := xK p0'.out hb
               replace p1' := xK p1'.out hb
               replace p2' := xK p2'.out hb
               replace p3' := xK p3'.out hb
               replace p4' := xK p4'.out hb
               replace p5' := xK p5'.out hb
               replace HO273 := xK HO273.out hb
               replace HO276 := xK HO276.out hb
               replace BK218 := yK BK218.out hb
               replace BK219 := yK BK219.out hb
               replace BK237 := yK BK237.out hb
               replace BK244 := yK BK244.out hb
               replace BK254 := yK BK254.out hb
               replace HB := aM (zT (zH HB.out) hb)
               (try clear hb)
               obtain ⟨Ao155, co155, eo155⟩ := Kd.R_slice HO273.out
               (first | subst eo155 | obtain ⟨rfl, rfl⟩ := eI eo155)
               obtain ⟨Ao156, co156, eo156⟩ := Kd.R_slice HO276.out
               (first | subst eo156 | obtain ⟨rfl, rfl⟩ := eI eo156)
               refine hK.out _ _ ⟨yc BK218.out 0, yc BK218.out 1, yc BK219.out 0, yc BK219.out 1⟩ (fun hHeld => ?_)
               clear hK K
               refine norm_ (a' := ?_) ?_ ?_
               rotate_left
               ·show Act.put _ (some 88) _ = _
                simp only [Act.put, qA, qB, qC, i64_w, i32_w]
                rfl
               refine two_ (i := 4) (j := 8) (Ni := some 89) (Nj := some 14) #[tT,tT,tT,tT,tT,fF,fF,fF,fF,fF,fF] #[tT,tT,tT,tT,fF,fF,fF,fF,tT,fF,fF] rfl rfl rfl rfl (two_of HT_.out (by kernel_rfl)) (by decide) (by decide) (fun K hK => ?_) (fun K hK => ?_)
               ·skip
                refine gS Try.func25 (by kernel_rfl) rfl #[.agg #[.slice Ao155 t271.length co155, .slice Ao156 t274.length co156], .agg #[.int .i64 t277, .string t278]] (by rfl) rfl rfl ?_
                with_reducible refine (impl_WriteSector.calls _ _ t271 _ _ t274 t277 t278 t279 t282 t285 _ ?side1 ?side2 ?side3 ?side4 A142.out).mono ?_
                (case side1 => repeat (first | exact (Kd.R_reads' HO273.out).2.2 | (with_reducible refine cA ?_ _) | (with_reducible refine cN ?_ _) | (with_reducible refine cD ?_)))
                (case side2 => exact (Kd.R_reads' HO273.out).2.1)
                (case side3 => repeat (first | exact (Kd.R_reads' HO276.out).2.2 | (with_reducible refine cA ?_ _) | (with_reducible refine cN ?_ _) | (with_reducible refine cD ?_)))
                (case side4 => exact (Kd.R_reads' HO276.out).2.1)
                rintro e w157 ⟨v280, v283, rfl, ho0, ho1, hb⟩
                refine ⟨_, rfl, ?_⟩
                have HO281 := aM (xL (Kd.R_new' (Kd.R_new' (Kd.R_new' (Kd.R_new' ho0 (Kd.R_lt (xH p0'.out))) (Kd.R_lt (xH p2'.out))) (Kd.R_lt (xH p4'.out))) (Kd.R_lt (xH HO273.out))) (zZ (zH HB.out)))
                replace p0' := aM (Kd.R_elder' (xH p0'.out) (Kd.R_base ho0) hb)
                replace p2' := aM (Kd.R_elder' (xH p2'.out) (Kd.R_base ho0) hb)
                replace p4' := aM (Kd.R_elder' (xH p4'.out) (Kd.R_base ho0) hb)
                replace HO273 := aM (Kd.R_elder' (xH HO273.out) (Kd.R_base ho0) hb)
                have HO284 := aM (xL (Kd.R_new' (Kd.R_new' (Kd.R_new' (Kd.R_new' ho1 (Kd.R_lt (xH p1'.out))) (Kd.R_lt (xH p3'.out))) (Kd.R_lt (xH p5'.out))) (Kd.R_lt (xH HO276.out))) (zZ (zH HB.out)))
                replace p1' := aM (Kd.R_elder' (xH p1'.out) (Kd.R_base ho1) hb)
                replace p3' := aM (Kd.R_elder' (xH p3'.out) (Kd.R_base ho1) hb)
                replace p5' := aM (Kd.R_elder' (xH p5'.out) (Kd.R_base ho1) hb)
                replace HO276 := aM (Kd.R_elder' (xH HO276.out) (Kd.R_base ho1) hb)
                replace BK218 := yK BK218.out hb
                replace BK219 := yK BK219.out hb
                replace BK237 := yK BK237.out hb
                replace BK244 := yK BK244.out hb
                replace BK254 := yK BK254.out hb
                replace HB := aM (zT (zH HB.out) hb)
                (try clear hb); (try clear ho0); (try clear ho1)
                refine hK.out _ _ ⟨yc BK218.out 0, yc BK218.out 1, yc BK219.out 0, yc BK219.out 1⟩ (fun hHeld => ?_)
                clear hK K
                refine norm_ (a' := ?_) ?_ ?_
                rotate_left
                ·show Act.put _ (some 89) _ = _
                 simp only [Act.put, qA, qB, qC, i64_w, i32_w]
                 rfl
                refine pure_ (i := 5) (N := some 84) (v := ?_) (a' := ?_) #[tT,tT,tT,tT,tT,tT,fF,fF,fF,fF,fF] rfl rfl (any_of HT_.out (by kernel_rfl)) (fun _ _ _ h => h) (Or.inl ⟨by rfl, ?_⟩) ?_ ?_
                rotate_left
                ·intro w'
                 go_simp
                 with_reducible rfl
                rotate_left
                ·simp only [Act.put, qA, qB, qC, i64_w, i32_w]
                 rfl
                refine pure_ (i := 6) (N := some 90) (v := ?_) (a' := ?_) #[tT,tT,tT,tT,tT,tT,tT,fF,fF,fF,fF] rfl rfl (any_of HT_.out (by kernel_rfl)) (fun _ _ _ h => h) (Or.inl ⟨by rfl, ?_⟩) ?_ ?_
                rotate_left
                ·intro w'
                 go_simp
                 with_reducible rfl
                rotate_left
                ·simp only [Act.put, qA, qB, qC, i64_w, i32_w]
                 rfl
                refine pure_ (i := 7) (N := some 91) (v := ?_) (a' := ?_) #[tT,tT,tT,tT,tT,tT,tT,tT,fF,fF,fF] rfl rfl (any_of HT_.out (by kernel_rfl)) (fun _ _ _ h => h) (Or.inl ⟨by rfl, ?_⟩) ?_ ?_
                rotate_left
                ·intro w'
                 go_simp
                 with_reducible rfl
                rotate_left
                ·simp only [Act.put, qA, qB, qC, i64_w, i32_w]
                 rfl
                refine one_ (i := 8) (N := some 14) #[tT,tT,tT,tT,tT,tT,tT,tT,tT,fF,fF] rfl rfl (one_of HT_.out (by kernel_rfl)) (by decide) (fun K hK => ?_)
                refine box_step ?hg (N := 14) ?hd (cs := #[.slice none 0 0, .slice none 0 0]) (t := 30) ?hr ?_; (case hd => rfl); (case hg => rfl); (case hr => first | (go_simp; done) | (go_simp; rfl))
                intro gb286 hg w158 hbox hb
                replace p0' := xK p0'.out hb
                replace p1' := xK p1'.out hb
                replace p2' := xK p2'.out hb
                replace p3' := xK p3'.out hb
                replace p4' := xK p4'.out hb
                replace p5' := xK p5'.out hb
                replace HO273 := xK HO273.out hb
                replace HO276 := xK HO276.out hb
                replace HO281 := xK HO281.out hb
                replace HO284 := xK HO284.out hb
                have BK286 := aM (hbox)
                have GW286 := aM ((by rw [hg]; exact (zZ (zH HB.out)) : w.heap.size ≤ gb286))
                have GE286 := aM ((by rw [hg]; exact (zZ (zH HB.out)) : w.heap.size ≤ gb286))
                replace HB := aM (zT (zH HB.out) hb)
                have NB218_286 := nL BK218.out hg
                have NB286_218 := nR BK218.out hg
                replace BK218 := yK BK218.out hb
                have NB219_286 := nL BK219.out hg
                have NB286_219 := nR BK219.out hg
                replace BK219 := yK BK219.out hb
                have NB237_286 := nL BK237.out hg
                have NB286_237 := nR BK237.out hg
                replace BK237 := yK BK237.out hb
                have NB244_286 := nL BK244.out hg
                have NB286_244 := nR BK244.out hg
                replace BK244 := yK BK244.out hb
                have NB254_286 := nL BK254.out hg
                have NB286_254 := nR BK254.out hg
                replace BK254 := yK BK254.out hb
                clear hb hbox hg
                refine hK.out _ _ ⟨yc BK218.out 0, yc BK218.out 1, yc BK219.out 0, yc BK219.out 1⟩ (fun hHeld => ?_)
                clear hK K
                refine norm_ (a' := ?_) ?_ ?_
                rotate_left
                ·show Act.put _ (some 14) _ = _
                 simp only [Act.put, qA, qB, qC, i64_w, i32_w]
                 rfl
                exact norm_ (by simp only [putAll, Act.put, qA, qB, qC]) (hCont (.slice Ao155 t271.length co155, .slice Ao156 t274.length co156, v280, v283, gb286) _ ⟨hHeld, (xH (xM HO273.out (fun _ hk => ⟨hk.2, ⟨hk.1.1.1.2, ⟨hk.1.1.2, hk.1.2⟩⟩⟩))), (xH (xM HO276.out (fun _ hk => ⟨hk.2, ⟨hk.1.1.1.2, ⟨hk.1.1.2, hk.1.2⟩⟩⟩))), (xH (xM HO281.out (fun _ hk => ⟨hk.2, ⟨hk.1.1.1.2, ⟨hk.1.1.2, hk.1.2⟩⟩⟩))), (xH (xM HO284.out (fun _ hk => ⟨hk.2, ⟨hk.1.1.1.2, ⟨hk.1.1.2, hk.1.2⟩⟩⟩))), (xH (xM p0'.out (fun _ hk => ⟨hk.1.2, ⟨hk.2, ⟨hk.1.1.1, hk.1.1.2⟩⟩⟩))), (xH (xM p1'.out (fun _ hk => ⟨hk.1.2, ⟨hk.2, ⟨hk.1.1.1, hk.1.1.2⟩⟩⟩))), (xH (xM p2'.out (fun _ hk => ⟨hk.1.2, ⟨hk.2, ⟨hk.1.1.1, hk.1.1.2⟩⟩⟩))), (xH (xM p3'.out (fun _ hk => ⟨hk.1.2, ⟨hk.2, ⟨hk.1.1.1, hk.1.1.2⟩⟩⟩))), (xH (xM p4'.out (fun _ hk => ⟨hk.1.2, ⟨hk.2, ⟨hk.1.1.1, hk.1.1.2⟩⟩⟩))), (xH (xM p5'.out (fun _ hk => ⟨hk.1.2, ⟨hk.2, ⟨hk.1.1.1, hk.1.1.2⟩⟩⟩))), (yH BK218.out), (yH BK219.out), (yH BK237.out), (yH BK244.out), (yH BK254.out), (yH BK286.out), GW286.out, GE286.out, NB218_286.out, NB286_218.out, NB219_286.out, NB286_219.out, NB237_286.out, NB286_237.out, NB244_286.out, NB286_244.out, NB254_286.out, NB286_254.out, (zH HB.out)⟩)
               ·skip
                refine box_step ?hg (N := 14) ?hd (cs := #[.slice none 0 0, .slice none 0 0]) (t := 30) ?hr ?_; (case hd => rfl); (case hg => rfl); (case hr => first | (go_simp; done) | (go_simp; rfl))
                intro gb286 hg w155 hbox hb
                replace p0' := xK p0'.out hb
                replace p1' := xK p1'.out hb
                replace p2' := xK p2'.out hb
                replace p3' := xK p3'.out hb
                replace p4' := xK p4'.out hb
                replace p5' := xK p5'.out hb
                replace HO273 := xK HO273.out hb
                replace HO276 := xK HO276.out hb
                have BK286 := aM (hbox)
                have GW286 := aM ((by rw [hg]; exact (zZ (zH HB.out)) : w.heap.size ≤ gb286))
                have GE286 := aM ((by rw [hg]; exact (zZ (zH HB.out)) : w.heap.size ≤ gb286))
                replace HB := aM (zT (zH HB.out) hb)
                have NB218_286 := nL BK218.out hg
                have NB286_218 := nR BK218.out hg
                replace BK218 := yK BK218.out hb
                have NB219_286 := nL BK219.out hg
                have NB286_219 := nR BK219.out hg
                replace BK219 := yK BK219.out hb
                have NB237_286 := nL BK237.out hg
                have NB286_237 := nR BK237.out hg
                replace BK237 := yK BK237.out hb
                have NB244_286 := nL BK244.out hg
                have NB286_244 := nR BK244.out hg
                replace BK244 := yK BK244.out hb
                have NB254_286 := nL BK254.out hg
                have NB286_254 := nR BK254.out hg
                replace BK254 := yK BK254.out hb
                clear hb hbox hg
                obtain ⟨Ao156, co156, eo156⟩ := Kd.R_slice HO273.out
                (first | subst eo156 | obtain ⟨rfl, rfl⟩ := eI eo156)
                obtain ⟨Ao157, co157, eo157⟩ := Kd.R_slice HO276.out
                (first | subst eo157 | obtain ⟨rfl, rfl⟩ := eI eo157)
                refine hK.out _ _ ⟨yc BK218.out 0, yc BK218.out 1, yc BK219.out 0, yc BK219.out 1⟩ (fun hHeld => ?_)
                clear hK K
                refine norm_ (a' := ?_) ?_ ?_
                rotate_left
                ·show Act.put _ (some 14) _ = _
                 simp only [Act.put, qA, qB, qC, i64_w, i32_w]
                 rfl
                refine one_ (i := 4) (N := some 89) #[tT,tT,tT,tT,tT,fF,fF,fF,tT,fF,fF] rfl rfl (one_of HT_.out (by kernel_rfl)) (by decide) (fun K hK => ?_)
                refine gS Try.func25 (by kernel_rfl) rfl #[.agg #[.slice Ao156 t271.length co156, .slice Ao157 t274.length co157], .agg #[.int .i64 t277, .string t278]] (by rfl) rfl rfl ?_
                with_reducible refine (impl_WriteSector.calls _ _ t271 _ _ t274 t277 t278 t279 t282 t285 _ ?side1 ?side2 ?side3 ?side4 A142.out).mono ?_
                (case side1 => repeat (first | exact (Kd.R_reads' HO273.out).2.2 | (with_reducible refine cA ?_ _) | (with_reducible refine cN ?_ _) | (with_reducible refine cD ?_)))
                (case side2 => exact (Kd.R_reads' HO273.out).2.1)
                (case side3 => repeat (first | exact (Kd.R_reads' HO276.out).2.2 | (with_reducible refine cA ?_ _) | (with_reducible refine cN ?_ _) | (with_reducible refine cD ?_)))
                (case side4 => exact (Kd.R_reads' HO276.out).2.1)
                rintro e w158 ⟨v280, v283, rfl, ho0, ho1, hb⟩
                refine ⟨_, rfl, ?_⟩
                have HO281 := aM (xL (Kd.R_new' (Kd.R_new' (Kd.R_new' (Kd.R_new' ho0 (Kd.R_lt (xH p0'.out))) (Kd.R_lt (xH p2'.out))) (Kd.R_lt (xH p4'.out))) (Kd.R_lt (xH HO273.out))) (zZ (zH HB.out)))
                replace p0' := aM (Kd.R_elder' (xH p0'.out) (Kd.R_base ho0) hb)
                replace p2' := aM (Kd.R_elder' (xH p2'.out) (Kd.R_base ho0) hb)
                replace p4' := aM (Kd.R_elder' (xH p4'.out) (Kd.R_base ho0) hb)
                replace HO273 := aM (Kd.R_elder' (xH HO273.out) (Kd.R_base ho0) hb)
                have HO284 := aM (xL (Kd.R_new' (Kd.R_new' (Kd.R_new' (Kd.R_new' ho1 (Kd.R_lt (xH p1'.out))) (Kd.R_lt (xH p3'.out))) (Kd.R_lt (xH p5'.out))) (Kd.R_lt (xH HO276.out))) (zZ (zH HB.out)))
                replace p1' := aM (Kd.R_elder' (xH p1'.out) (Kd.R_base ho1) hb)
                replace p3' := aM (Kd.R_elder' (xH p3'.out) (Kd.R_base ho1) hb)
                replace p5' := aM (Kd.R_elder' (xH p5'.out) (Kd.R_base ho1) hb)
                replace HO276 := aM (Kd.R_elder' (xH HO276.out) (Kd.R_base ho1) hb)
                replace BK218 := yK BK218.out hb
                replace BK219 := yK BK219.out hb
                replace BK237 := yK BK237.out hb
                replace BK244 := yK BK244.out hb
                replace BK254 := yK BK254.out hb
                replace BK286 := yK BK286.out hb
                replace HB := aM (zT (zH HB.out) hb)
                (try clear hb); (try clear ho0); (try clear ho1)
                refine hK.out _ _ ⟨yc BK218.out 0, yc BK218.out 1, yc BK219.out 0, yc BK219.out 1⟩ (fun hHeld => ?_)
                clear hK K
                refine norm_ (a' := ?_) ?_ ?_
                rotate_left
                ·show Act.put _ (some 89) _ = _
                 simp only [Act.put, qA, qB, qC, i64_w, i32_w]
                 rfl
                refine pure_ (i := 5) (N := some 84) (v := ?_) (a' := ?_) #[tT,tT,tT,tT,tT,tT,fF,fF,tT,fF,fF] rfl rfl (any_of HT_.out (by kernel_rfl)) (fun _ _ _ h => h) (Or.inl ⟨by rfl, ?_⟩) ?_ ?_
                rotate_left
                ·intro w'
                 go_simp
                 with_reducible rfl
                rotate_left
                ·simp only [Act.put, qA, qB, qC, i64_w, i32_w]
                 rfl
                refine pure_ (i := 6) (N := some 90) (v := ?_) (a' := ?_) #[tT,tT,tT,tT,tT,tT,tT,fF,tT,fF,fF] rfl rfl (any_of HT_.out (by kernel_rfl)) (fun _ _ _ h => h) (Or.inl ⟨by rfl, ?_⟩) ?_ ?_
                rotate_left
                ·intro w'
                 go_simp
                 with_reducible rfl
                rotate_left
                ·simp only [Act.put, qA, qB, qC, i64_w, i32_w]
                 rfl
                refine pure_ (i := 7) (N := some 91) (v := ?_) (a' := ?_) #[tT,tT,tT,tT,tT,tT,tT,tT,tT,fF,fF] rfl rfl (any_of HT_.out (by kernel_rfl)) (fun _ _ _ h => h) (Or.inl ⟨by rfl, ?_⟩) ?_ ?_
                rotate_left
                ·intro w'
                 go_simp
                 with_reducible rfl
                rotate_left
                ·simp only [Act.put, qA, qB, qC, i64_w, i32_w]
                 rfl
                exact norm_ (by simp only [putAll, Act.put, qA, qB, qC]) (hCont (.slice Ao156 t271.length co156, .slice Ao157 t274.length co157, v280, v283, gb286) _ ⟨hHeld, (xH (xM HO273.out (fun _ hk => ⟨hk.2, ⟨hk.1.1.1.2, ⟨hk.1.1.2, hk.1.2⟩⟩⟩))), (xH (xM HO276.out (fun _ hk => ⟨hk.2, ⟨hk.1.1.1.2, ⟨hk.1.1.2, hk.1.2⟩⟩⟩))), (xH (xM HO281.out (fun _ hk => ⟨hk.2, ⟨hk.1.1.1.2, ⟨hk.1.1.2, hk.1.2⟩⟩⟩))), (xH (xM HO284.out (fun _ hk => ⟨hk.2, ⟨hk.1.1.1.2, ⟨hk.1.1.2, hk.1.2⟩⟩⟩))), (xH (xM p0'.out (fun _ hk => ⟨hk.1.2, ⟨hk.2, ⟨hk.1.1.1, hk.1.1.2⟩⟩⟩))), (xH (xM p1'.out (fun _ hk => ⟨hk.1.2, ⟨hk.2, ⟨hk.1.1.1, hk.1.1.2⟩⟩⟩))), (xH (xM p2'.out (fun _ hk => ⟨hk.1.2, ⟨hk.2, ⟨hk.1.1.1, hk.1.1.2⟩⟩⟩))), (xH (xM p3'.out (fun _ hk => ⟨hk.1.2, ⟨hk.2, ⟨hk.1.1.1, hk.1.1.2⟩⟩⟩))), (xH (xM p4'.out (fun _ hk => ⟨hk.1.2, ⟨hk.2, ⟨hk.1.1.1, hk.1.1.2⟩⟩⟩))), (xH (xM p5'.out (fun _ hk => ⟨hk.1.2, ⟨hk.2, ⟨hk.1.1.1, hk.1.1.2⟩⟩⟩))), (yH BK218.out), (yH BK219.out), (yH BK237.out), (yH BK244.out), (yH BK254.out), (yH BK286.out), GW286.out, GE286.out, NB218_286.out, NB286_218.out, NB219_286.out, NB286_219.out, NB237_286.out, NB286_237.out, NB244_286.out, NB286_244.out, NB254_286.out, NB286_254.out, (zH HB.out)⟩)
              ·skip
               refine box_step ?hg (N := 14) ?hd (cs := #[.slice none 0 0, .slice none 0 0]) (t := 30) ?hr ?_; (case hd => rfl); (case hg => rfl); (case hr => first | (go_simp; done) | (go_simp; rfl))
               intro gb286 hg w154 hbox hb
               replace p0' := xK p0'.out hb
               replace p1' := xK p1'.out hb
               replace p2' := xK p2'.out hb
               replace p3' := xK p3'.out hb
               replace p4' := xK p4'.out hb
               replace p5' := xK p5'.out hb
               replace HO273 := xK HO273.out hb
               replace HO276 := xK HO276.out hb
               have BK286 := aM (hbox)
               have GW286 := aM ((by rw [hg]; exact (zZ (zH HB.out)) : w.heap.size ≤ gb286))
               have GE286 := aM ((by rw [hg]; exact (zZ (zH HB.out)) : w.heap.size ≤ gb286))
               replace HB := aM (zT (zH HB.out) hb)
               have NB218_286 := nL BK218.out hg
               have NB286_218 := nR BK218.out hg
               replace BK218 := yK BK218.out hb
               have NB219_286 := nL BK219.out hg
               have NB286_219 := nR BK219.out hg
               replace BK219 := yK BK219.out hb
               have NB237_286 := nL BK237.out hg
               have NB286_237 := nR BK237.out hg
               replace BK237 := yK BK237.out hb
               have NB244_286 := nL BK244.out hg
               have NB286_244 := nR BK244.out hg
               replace BK244 := yK BK244.out hb
               have NB254_286 := nL BK254.out hg
               have NB286_254 := nR BK254.out hg
               replace BK254 := yK BK254.out hb
               clear hb hbox hg
               refine hK.out _ _ ⟨yc BK218.out 0, yc BK218.out 1, yc BK219.out 0, yc BK219.out 1⟩ (fun hHeld => ?_)
               clear hK K
               refine norm_ (a' := ?_) ?_ ?_
               rotate_left
               ·show Act.put _ (some 14) _ = _
                simp only [Act.put, qA, qB, qC, i64_w, i32_w]
                rfl
               refine one_ (i := 3) (N := some 88) #[tT,tT,tT,tT,fF,fF,fF,fF,tT,fF,fF] rfl rfl (one_of HT_.out (by kernel_rfl)) (by decide) (fun K hK => ?_)
               refine gS Try.func24 (by kernel_rfl) rfl #[.agg #[.int .i64 a1_0, .string a1_1]] (by rfl) rfl rfl ?_
               with_reducible refine (laws_toWrite.calls a1_0 a1_1 t277 t278 _ A141.out).mono ?_
               rintro e w155 ⟨rfl, hb⟩
               refine ⟨_, rfl, ?_⟩
               replace p0' := xK p0'.out hb
               replace p1' := xK p1'.out hb
               replace p2' := xK p2'.out hb
               replace p3' := xK p3'.out hb
               replace p4' := xK p4'.out hb
               replace p5' := xK p5'.out hb
               replace HO273 := xK HO273.out hb
               replace HO276 := xK HO276.out hb
               replace BK218 := yK BK218.out hb
               replace BK219 := yK BK219.out hb
               replace BK237 := yK BK237.out hb
               replace BK244 := yK BK244.out hb
               replace BK254 := yK BK254.out hb
               replace BK286 := yK BK286.out hb
               replace HB := aM (zT (zH HB.out) hb)
               (try clear hb)
               obtain ⟨Ao156, co156, eo156⟩ := Kd.R_slice HO273.out
               (first | subst eo156 | obtain ⟨rfl, rfl⟩ := eI eo156)
               obtain ⟨Ao157, co157, eo157⟩ := Kd.R_slice HO276.out
               (first | subst eo157 | obtain ⟨rfl, rfl⟩ := eI eo157)
               refine hK.out _ _ ⟨yc BK218.out 0, yc BK218.out 1, yc BK219.out 0, yc BK219.out 1⟩ (fun hHeld => ?_)
               clear hK K
               refine norm_ (a' := ?_) ?_ ?_
               rotate_left
               ·show Act.put _ (some 88) _ = _
                simp only [Act.put, qA, qB, qC, i64_w, i32_w]
                rfl
               refine one_ (i := 4) (N := some 89) #[tT,tT,tT,tT,tT,fF,fF,fF,tT,fF,fF] rfl rfl (one_of HT_.out (by kernel_rfl)) (by decide) (fun K hK => ?_)
               refine gS Try.func25 (by kernel_rfl) rfl #[.agg #[.slice Ao156 t271.length co156, .slice Ao157 t274.length co157], .agg #[.int .i64 t277, .string t278]] (by rfl) rfl rfl ?_
               with_reducible refine (impl_WriteSector.calls _ _ t271 _ _ t274 t277 t278 t279 t282 t285 _ ?side1 ?side2 ?side3 ?side4 A142.out).mono ?_
               (case side1 => repeat (first | exact (Kd.R_reads' HO273.out).2.2 | (with_reducible refine cA ?_ _) | (with_reducible refine cN ?_ _) | (with_reducible refine cD ?_)))
               (case side2 => exact (Kd.R_reads' HO273.out).2.1)
               (case side3 => repeat (first | exact (Kd.R_reads' HO276.out).2.2 | (with_reducible refine cA ?_ _) | (with_reducible refine cN ?_ _) | (with_reducible refine cD ?_)))
               (case side4 => exact (Kd.R_reads' HO276.out).2.1)
               rintro e w158 ⟨v280, v283, rfl, ho0, ho1, hb⟩
               refine ⟨_, rfl, ?_⟩
               have HO281 := aM (xL (Kd.R_new' (Kd.R_new' (Kd.R_new' (Kd.R_new' ho0 (Kd.R_lt (xH p0'.out))) (Kd.R_lt (xH p2'.out))) (Kd.R_lt (xH p4'.out))) (Kd.R_lt (xH HO273.out))) (zZ (zH HB.out)))
               replace p0' := aM (Kd.R_elder' (xH p0'.out) (Kd.R_base ho0) hb)
               replace p2' := aM (Kd.R_elder' (xH p2'.out) (Kd.R_base ho0) hb)
               replace p4' := aM (Kd.R_elder' (xH p4'.out) (Kd.R_base ho0) hb)
               replace HO273 := aM (Kd.R_elder' (xH HO273.out) (Kd.R_base ho0) hb)
               have HO284 := aM (xL (Kd.R_new' (Kd.R_new' (Kd.R_new' (Kd.R_new' ho1 (Kd.R_lt (xH p1'.out))) (Kd.R_lt (xH p3'.out))) (Kd.R_lt (xH p5'.out))) (Kd.R_lt (xH HO276.out))) (zZ (zH HB.out)))
               replace p1' := aM (Kd.R_elder' (xH p1'.out) (Kd.R_base ho1) hb)
               replace p3' := aM (Kd.R_elder' (xH p3'.out) (Kd.R_base ho1) hb)
               replace p5' := aM (Kd.R_elder' (xH p5'.out) (Kd.R_base ho1) hb)
               replace HO276 := aM (Kd.R_elder' (xH HO276.out) (Kd.R_base ho1) hb)
               replace BK218 := yK BK218.out hb
               replace BK219 := yK BK219.out hb
               replace BK237 := yK BK237.out hb
               replace BK244 := yK BK244.out hb
               replace BK254 := yK BK254.out hb
               replace BK286 := yK BK286.out hb
               replace HB := aM (zT (zH HB.out) hb)
               (try clear hb); (try clear ho0); (try clear ho1)
               refine hK.out _ _ ⟨yc BK218.out 0, yc BK218.out 1, yc BK219.out 0, yc BK219.out 1⟩ (fun hHeld => ?_)
               clear hK K
               refine norm_ (a' := ?_) ?_ ?_
               rotate_left
               ·show Act.put _ (some 89) _ = _
                simp only [Act.put, qA, qB, qC, i64_w, i32_w]
                rfl
               refine pure_ (i := 5) (N := some 84) (v := ?_) (a' := ?_) #[tT,tT,tT,tT,tT,tT,fF,fF,tT,fF,fF] rfl rfl (any_of HT_.out (by kernel_rfl)) (fun _ _ _ h => h) (Or.inl ⟨by rfl, ?_⟩) ?_ ?_
               rotate_left
               ·intro w'
                go_simp
                with_reducible rfl
               rotate_left
               ·simp only [Act.put, qA, qB, qC, i64_w, i32_w]
                rfl
               refine pure_ (i := 6) (N := some 90) (v := ?_) (a' := ?_) #[tT,tT,tT,tT,tT,tT,tT,fF,tT,fF,fF] rfl rfl (any_of HT_.out (by kernel_rfl)) (fun _ _ _ h => h) (Or.inl ⟨by rfl, ?_⟩) ?_ ?_
               rotate_left
               ·intro w'
                go_simp
                with_reducible rfl
               rotate_left
               ·simp only [Act.put, qA, qB, qC, i64_w, i32_w]
                rfl
               refine pure_ (i := 7) (N := some 91) (v := ?_) (a' := ?_) #[tT,tT,tT,tT,tT,tT,tT,tT,tT,fF,fF] rfl rfl (any_of HT_.out (by kernel_rfl)) (fun _ _ _ h => h) (Or.inl ⟨by rfl, ?_⟩) ?_ ?_
               rotate_left
               ·intro w'
                go_simp
                with_reducible rfl
               rotate_left
               ·simp only [Act.put, qA, qB, qC, i64_w, i32_w]
                rfl
               exact norm_ (by simp only [putAll, Act.put, qA, qB, qC]) (hCont (.slice Ao156 t271.length co156, .slice Ao157 t274.length co157, v280, v283, gb286) _ ⟨hHeld, (xH (xM HO273.out (fun _ hk => ⟨hk.2, ⟨hk.1.1.1.2, ⟨hk.1.1.2, hk.1.2⟩⟩⟩))), (xH (xM HO276.out (fun _ hk => ⟨hk.2, ⟨hk.1.1.1.2, ⟨hk.1.1.2, hk.1.2⟩⟩⟩))), (xH (xM HO281.out (fun _ hk => ⟨hk.2, ⟨hk.1.1.1.2, ⟨hk.1.1.2, hk.1.2⟩⟩⟩))), (xH (xM HO284.out (fun _ hk => ⟨hk.2, ⟨hk.1.1.1.2, ⟨hk.1.1.2, hk.1.2⟩⟩⟩))), (xH (xM p0'.out (fun _ hk => ⟨hk.1.2, ⟨hk.2, ⟨hk.1.1.1, hk.1.1.2⟩⟩⟩))), (xH (xM p1'.out (fun _ hk => ⟨hk.1.2, ⟨hk.2, ⟨hk.1.1.1, hk.1.1.2⟩⟩⟩))), (xH (xM p2'.out (fun _ hk => ⟨hk.1.2, ⟨hk.2, ⟨hk.1.1.1, hk.1.1.2⟩⟩⟩))), (xH (xM p3'.out (fun _ hk => ⟨hk.1.2, ⟨hk.2, ⟨hk.1.1.1, hk.1.1.2⟩⟩⟩))), (xH (xM p4'.out (fun _ hk => ⟨hk.1.2, ⟨hk.2, ⟨hk.1.1.1, hk.1.1.2⟩⟩⟩))), (xH (xM p5'.out (fun _ hk => ⟨hk.1.2, ⟨hk.2, ⟨hk.1.1.1, hk.1.1.2⟩⟩⟩))), (yH BK218.out), (yH BK219.out), (yH BK237.out), (yH BK244.out), (yH BK254.out), (yH BK286.out), GW286.out, GE286.out, NB218_286.out, NB286_218.out, NB219_286.out, NB286_219.out, NB237_286.out, NB286_237.out, NB244_286.out, NB286_244.out, NB254_286.out, NB286_254.out, (zH HB.out)⟩)
             ·skip
              refine box_step ?hg (N := 14) ?hd (cs := #[.slice none 0 0, .slice none 0 0]) (t := 30) ?hr ?_; (case hd => rfl); (case hg => rfl); (case hr => first | (go_simp; done) | (go_simp; rfl))
              intro gb286 hg w153 hbox hb
              replace p0' := xK p0'.out hb
              replace p1' := xK p1'.out hb
              replace p2' := xK p2'.out hb
              replace p3' := xK p3'.out hb
              replace p4' := xK p4'.out hb
              replace p5' := xK p5'.out hb
              have BK286 := aM (hbox)
              have GW286 := aM ((by rw [hg]; exact (zZ (zH HB.out)) : w.heap.size ≤ gb286))
              have GE286 := aM ((by rw [hg]; exact (zZ (zH HB.out)) : w.heap.size ≤ gb286))
              replace HB := aM (zT (zH HB.out) hb)
              have NB218_286 := nL BK218.out hg
              have NB286_218 := nR BK218.out hg
              replace BK218 := yK BK218.out hb
              have NB219_286 := nL BK219.out hg
              have NB286_219 := nR BK219.out hg
              replace BK219 := yK BK219.out hb
              have NB237_286 := nL BK237.out hg
              have NB286_237 := nR BK237.out hg
              replace BK237 := yK BK237.out hb
              have NB244_286 := nL BK244.out hg
              have NB286_244 := nR BK244.out hg
              replace BK244 := yK BK244.out hb
              have NB254_286 := nL BK254.out hg
              have NB286_254 := nR BK254.out hg
              replace BK254 := yK BK254.out hb
              clear hb hbox hg
              refine hK.out _ _ ⟨yc BK218.out 0, yc BK218.out 1, yc BK219.out 0, yc BK219.out 1⟩ (fun hHeld => ?_)
              clear hK K
              refine norm_ (a' := ?_) ?_ ?_
              rotate_left
              ·show Act.put _ (some 14) _ = _
               simp only [Act.put, qA, qB, qC, i64_w, i32_w]
               rfl
              refine one_ (i := 1) (N := some 86) #[tT,tT,tT,fF,fF,fF,fF,fF,tT,fF,fF] rfl rfl (one_of HT_.out (by kernel_rfl)) (by decide) (fun K hK => ?_)
              refine gS Try.func15 (by kernel_rfl) rfl #[.agg #[.slice A0_0 l0_0.length c0_0, .slice A0_1 l0_1.length c0_1]] (by rfl) rfl rfl ?_
              with_reducible refine (laws_toDevice.calls kj91 _ _ l0_0 _ _ l0_1 t271 t274 _ ?side1 ?side2 ?side3 ?side4 A140.out).mono ?_
              (case side1 => exact cK HR0_0.out HB.out)
              (case side2 => exact HC0_0.out)
              (case side3 => exact cK HR0_1.out HB.out)
              (case side4 => exact HC0_1.out)
              rintro e w154 ⟨v272, v275, rfl, ho0, ho1, hb⟩
              refine ⟨_, rfl, ?_⟩
              have HO273 := aM (xL (Kd.R_new' (Kd.R_new' (Kd.R_new' ho0 (Kd.R_lt (xH p0'.out))) (Kd.R_lt (xH p2'.out))) (Kd.R_lt (xH p4'.out))) (zZ (zH HB.out)))
              replace p0' := aM (Kd.R_elder' (xH p0'.out) (Kd.R_base ho0) hb)
              replace p2' := aM (Kd.R_elder' (xH p2'.out) (Kd.R_base ho0) hb)
              replace p4' := aM (Kd.R_elder' (xH p4'.out) (Kd.R_base ho0) hb)
              have HO276 := aM (xL (Kd.R_new' (Kd.R_new' (Kd.R_new' ho1 (Kd.R_lt (xH p1'.out))) (Kd.R_lt (xH p3'.out))) (Kd.R_lt (xH p5'.out))) (zZ (zH HB.out)))
              replace p1' := aM (Kd.R_elder' (xH p1'.out) (Kd.R_base ho1) hb)
              replace p3' := aM (Kd.R_elder' (xH p3'.out) (Kd.R_base ho1) hb)
              replace p5' := aM (Kd.R_elder' (xH p5'.out) (Kd.R_base ho1) hb)
              replace BK218 := yK BK218.out hb
              replace BK219 := yK BK219.out hb
              replace BK237 := yK BK237.out hb
              replace BK244 := yK BK244.out hb
              replace BK254 := yK BK254.out hb
              replace BK286 := yK BK286.out hb
              replace HB := aM (zT (zH HB.out) hb)
              (try clear hb); (try clear ho0); (try clear ho1)
              refine hK.out _ _ ⟨yc BK218.out 0, yc BK218.out 1, yc BK219.out 0, yc BK219.out 1⟩ (fun hHeld => ?_)
              clear hK K
              refine norm_ (a' := ?_) ?_ ?_
              rotate_left
              ·show Act.put _ (some 86) _ = _
               simp only [Act.put, qA, qB, qC, i64_w, i32_w]
               rfl
              refine one_ (i := 3) (N := some 88) #[tT,tT,tT,tT,fF,fF,fF,fF,tT,fF,fF] rfl rfl (one_of HT_.out (by kernel_rfl)) (by decide) (fun K hK => ?_)
              refine gS Try.func24 (by kernel_rfl) rfl #[.agg #[.int .i64 a1_0, .string a1_1]] (by rfl) rfl rfl ?_
              with_reducible refine (laws_toWrite.calls a1_0 a1_1 t277 t278 _ A141.out).mono ?_
              rintro e w155 ⟨rfl, hb⟩
              refine ⟨_, rfl, ?_⟩
              replace p0' := xK p0'.out hb
              replace p1' := xK p1'.out hb
              replace p2' := xK p2'.out hb
              replace p3' := xK p3'.out hb
              replace p4' := xK p4'.out hb
              replace p5' := xK p5'.out hb
              replace HO273 := xK HO273.out hb
              replace HO276 := xK HO276.out hb
              replace BK218 := yK BK218.out hb
              replace BK219 := yK BK219.out hb
              replace BK237 := yK BK237.out hb
              replace BK244 := yK BK244.out hb
              replace BK254 := yK BK254.out hb
              replace BK286 := yK BK286.out hb
              replace HB := aM (zT (zH HB.out) hb)
              (try clear hb)
              obtain ⟨Ao156, co156, eo156⟩ := Kd.R_slice HO273.out
              (first | subst eo156 | obtain ⟨rfl, rfl⟩ := eI eo156)
              obtain ⟨Ao157, co157, eo157⟩ := Kd.R_slice HO276.out
              (first | subst eo157 | obtain ⟨rfl, rfl⟩ := eI eo157)
              refine hK.out _ _ ⟨yc BK218.out 0, yc BK218.out 1, yc BK219.out 0, yc BK219.out 1⟩ (fun hHeld => ?_)
              clear hK K
              refine norm_ (a' := ?_) ?_ ?_
              rotate_left
              ·show Act.put _ (some 88) _ = _
               simp only [Act.put, qA, qB, qC, i64_w, i32_w]
               rfl
              refine one_ (i := 4) (N := some 89) #[tT,tT,tT,tT,tT,fF,fF,fF,tT,fF,fF] rfl rfl (one_of HT_.out (by kernel_rfl)) (by decide) (fun K hK => ?_)
              refine gS Try.func25 (by kernel_rfl) rfl #[.agg #[.slice Ao156 t271.length co156, .slice Ao157 t274.length co157], .agg #[.int .i64 t277, .string t278]] (by rfl) rfl rfl ?_
              with_reducible refine (impl_WriteSector.calls _ _ t271 _ _ t274 t277 t278 t279 t282 t285 _ ?side1 ?side2 ?side3 ?side4 A142.out).mono ?_
              (case side1 => repeat (first | exact (Kd.R_reads' HO273.out).2.2 | (with_reducible refine cA ?_ _) | (with_reducible refine cN ?_ _) | (with_reducible refine cD ?_)))
              (case side2 => exact (Kd.R_reads' HO273.out).2.1)
              (case side3 => repeat (first | exact (Kd.R_reads' HO276.out).2.2 | (with_reducible refine cA ?_ _) | (with_reducible refine cN ?_ _) | (with_reducible refine cD ?_)))
              (case side4 => exact (Kd.R_reads' HO276.out).2.1)
              rintro e w158 ⟨v280, v283, rfl, ho0, ho1, hb⟩
              refine ⟨_, rfl, ?_⟩
              have HO281 := aM (xL (Kd.R_new' (Kd.R_new' (Kd.R_new' (Kd.R_new' ho0 (Kd.R_lt (xH p0'.out))) (Kd.R_lt (xH p2'.out))) (Kd.R_lt (xH p4'.out))) (Kd.R_lt (xH HO273.out))) (zZ (zH HB.out)))
              replace p0' := aM (Kd.R_elder' (xH p0'.out) (Kd.R_base ho0) hb)
              replace p2' := aM (Kd.R_elder' (xH p2'.out) (Kd.R_base ho0) hb)
              replace p4' := aM (Kd.R_elder' (xH p4'.out) (Kd.R_base ho0) hb)
              replace HO273 := aM (Kd.R_elder' (xH HO273.out) (Kd.R_base ho0) hb)
              have HO284 := aM (xL (Kd.R_new' (Kd.R_new' (Kd.R_new' (Kd.R_new' ho1 (Kd.R_lt (xH p1'.out))) (Kd.R_lt (xH p3'.out))) (Kd.R_lt (xH p5'.out))) (Kd.R_lt (xH HO276.out))) (zZ (zH HB.out)))
              replace p1' := aM (Kd.R_elder' (xH p1'.out) (Kd.R_base ho1) hb)
              replace p3' := aM (Kd.R_elder' (xH p3'.out) (Kd.R_base ho1) hb)
              replace p5' := aM (Kd.R_elder' (xH p5'.out) (Kd.R_base ho1) hb)
              replace HO276 := aM (Kd.R_elder' (xH HO276.out) (Kd.R_base ho1) hb)
              replace BK218 := yK BK218.out hb
              replace BK219 := yK BK219.out hb
              replace BK237 := yK BK237.out hb
              replace BK244 := yK BK244.out hb
              replace BK254 := yK BK254.out hb
              replace BK286 := yK BK286.out hb
              replace HB := aM (zT (zH HB.out) hb)
              (try clear hb); (try clear ho0); (try clear ho1)
              refine hK.out _ _ ⟨yc BK218.out 0, yc BK218.out 1, yc BK219.out 0, yc BK219.out 1⟩ (fun hHeld => ?_)
              clear hK K
              refine norm_ (a' := ?_) ?_ ?_
              rotate_left
              ·show Act.put _ (some 89) _ = _
               simp only [Act.put, qA, qB, qC, i64_w, i32_w]
               rfl
              refine pure_ (i := 5) (N := some 84) (v := ?_) (a' := ?_) #[tT,tT,tT,tT,tT,tT,fF,fF,tT,fF,fF] rfl rfl (any_of HT_.out (by kernel_rfl)) (fun _ _ _ h => h) (Or.inl ⟨by rfl, ?_⟩) ?_ ?_
              rotate_left
              ·intro w'
               go_simp
               with_reducible rfl
              rotate_left
              ·simp only [Act.put, qA, qB, qC, i64_w, i32_w]
               rfl
              refine pure_ (i := 6) (N := some 90) (v := ?_) (a' := ?_) #[tT,tT,tT,tT,tT,tT,tT,fF,tT,fF,fF] rfl rfl (any_of HT_.out (by kernel_rfl)) (fun _ _ _ h => h) (Or.inl ⟨by rfl, ?_⟩) ?_ ?_
              rotate_left
              ·intro w'
               go_simp
               with_reducible rfl
              rotate_left
              ·simp only [Act.put, qA, qB, qC, i64_w, i32_w]
               rfl
              refine pure_ (i := 7) (N := some 91) (v := ?_) (a' := ?_) #[tT,tT,tT,tT,tT,tT,tT,tT,tT,fF,fF] rfl rfl (any_of HT_.out (by kernel_rfl)) (fun _ _ _ h => h) (Or.inl ⟨by rfl, ?_⟩) ?_ ?_
              rotate_left
              ·intro w'
               go_simp
               with_reducible rfl
              rotate_left
              ·simp only [Act.put, qA, qB, qC, i64_w, i32_w]
               rfl
              exact norm_ (by simp only [putAll, Act.put, qA, qB, qC]) (hCont (.slice Ao156 t271.length co156, .slice Ao157 t274.length co157, v280, v283, gb286) _ ⟨hHeld, (xH (xM HO273.out (fun _ hk => ⟨hk.2, ⟨hk.1.1.1.2, ⟨hk.1.1.2, hk.1.2⟩⟩⟩))), (xH (xM HO276.out (fun _ hk => ⟨hk.2, ⟨hk.1.1.1.2, ⟨hk.1.1.2, hk.1.2⟩⟩⟩))), (xH (xM HO281.out (fun _ hk => ⟨hk.2, ⟨hk.1.1.1.2, ⟨hk.1.1.2, hk.1.2⟩⟩⟩))), (xH (xM HO284.out (fun _ hk => ⟨hk.2, ⟨hk.1.1.1.2, ⟨hk.1.1.2, hk.1.2⟩⟩⟩))), (xH (xM p0'.out (fun _ hk => ⟨hk.1.2, ⟨hk.2, ⟨hk.1.1.1, hk.1.1.2⟩⟩⟩))), (xH (xM p1'.out (fun _ hk => ⟨hk.1.2, ⟨hk.2, ⟨hk.1.1.1, hk.1.1.2⟩⟩⟩))), (xH (xM p2'.out (fun _ hk => ⟨hk.1.2, ⟨hk.2, ⟨hk.1.1.1, hk.1.1.2⟩⟩⟩))), (xH (xM p3'.out (fun _ hk => ⟨hk.1.2, ⟨hk.2, ⟨hk.1.1.1, hk.1.1.2⟩⟩⟩))), (xH (xM p4'.out (fun _ hk => ⟨hk.1.2, ⟨hk.2, ⟨hk.1.1.1, hk.1.1.2⟩⟩⟩))), (xH (xM p5'.out (fun _ hk => ⟨hk.1.2, ⟨hk.2, ⟨hk.1.1.1, hk.1.1.2⟩⟩⟩))), (yH BK218.out), (yH BK219.out), (yH BK237.out), (yH BK244.out), (yH BK254.out), (yH BK286.out), GW286.out, GE286.out, NB218_286.out, NB286_218.out, NB219_286.out, NB286_219.out, NB237_286.out, NB286_237.out, NB244_286.out, NB286_244.out, NB254_286.out, NB286_254.out, (zH HB.out)⟩)
            rintro ⟨v272, v275, v280, v283, gb286⟩ w159 ⟨hS_, h0_, h1_, h2_, h3_, h4_, h5_, h6_, h7_, h8_, h9_, h10_, h11_, h12_, h13_, h14_, h15_, h16_, h17_, h18_, h19_, h20_, h21_, h22_, h23_, h24_, h25_, h26_, h27_, h28_⟩
            (try dsimp only at h0_ h1_ h2_ h3_ h4_ h5_ h6_ h7_ h8_ h9_ h10_ h11_ h12_ h13_ h14_ h15_ h16_ h17_ h18_ h19_ h20_ h21_ h22_ h23_ h24_ h25_ h26_ h27_ h28_)
            have n0_ := aM h0_
            have n1_ := aM h1_
            have n2_ := aM h2_
            have n3_ := aM h3_
            have n4_ := aM h4_
            have n5_ := aM h5_
            have n6_ := aM h6_
            have n7_ := aM h7_
            have n8_ := aM h8_
            have n9_ := aM h9_
            have n10_ := aM h10_
            have n11_ := aM h11_
            have n12_ := aM h12_
            have n13_ := aM h13_
            have n14_ := aM h14_
            have n15_ := aM h15_
            have n16_ := aM h16_
            have n17_ := aM h17_
            have n18_ := aM h18_
            have n19_ := aM h19_
            have n20_ := aM h20_
            have n21_ := aM h21_
            have n22_ := aM h22_
            have n23_ := aM h23_
            have n24_ := aM h24_
            have n25_ := aM h25_
            have n26_ := aM h26_
            have n27_ := aM h27_
            have n28_ := aM h28_
            clear p0'
            clear p1'
            clear p2'
            clear p3'
            clear p4'
            clear p5'
            clear BK218 BK219 BK237 BK244 BK254 HB h0_ h1_ h2_ h3_ h4_ h5_ h6_ h7_ h8_ h9_ h10_ h11_ h12_ h13_ h14_ h15_ h16_ h17_ h18_ h19_ h20_ h21_ h22_ h23_ h24_ h25_ h26_ h27_ h28_
            have HO273 := n0_
            have HO276 := n1_
            have HO281 := n2_
            have HO284 := n3_
            have p0' := n4_
            have p1' := n5_
            have p2' := n6_
            have p3' := n7_
            have p4' := n8_
            have p5' := n9_
            have BK218 := n10_
            have BK219 := n11_
            have BK237 := n12_
            have BK244 := n13_
            have BK254 := n14_
            have BK286 := n15_
            have GW286 := n16_
            have GE286 := n17_
            have NB218_286 := n18_
            have NB286_218 := n19_
            have NB219_286 := n20_
            have NB286_219 := n21_
            have NB237_286 := n22_
            have NB286_237 := n23_
            have NB244_286 := n24_
            have NB286_244 := n25_
            have NB254_286 := n26_
            have NB286_254 := n27_
            have HB := n28_
            clear n0_ n1_ n2_ n3_ n4_ n5_ n6_ n7_ n8_ n9_ n10_ n11_ n12_ n13_ n14_ n15_ n16_ n17_ n18_ n19_ n20_ n21_ n22_ n23_ n24_ n25_ n26_ n27_ n28_
            have hHeld : w159.cell? ⟨gb218, 0, none⟩ = some (.slice A0_0 l0_0.length c0_0) ∧ w159.cell? ⟨gb218, 1, none⟩ = some (.slice A0_1 l0_1.length c0_1) ∧ w159.cell? ⟨gb219, 0, none⟩ = some (.int .i64 a1_0) ∧ w159.cell? ⟨gb219, 1, none⟩ = some (.string a1_1) := hS_
            obtain ⟨Ao160, co160, eo160⟩ := Kd.R_slice HO281.out
            (first | subst eo160 | obtain ⟨rfl, rfl⟩ := eI eo160)
            obtain ⟨Ao162, co162, eo162⟩ := Kd.R_slice HO284.out
            (first | subst eo162 | obtain ⟨rfl, rfl⟩ := eI eo162)
            refine norm_ (a' := ?_) ?_ ?_
            rotate_left
            ·simp only [putAll, Act.put, qA, qB, qC]
             rfl
            refine one_ (i := 9) (N := none) #[tT,tT,tT,tT,tT,tT,tT,tT,tT,tT,fF] rfl rfl (one_of HT_.out (by kernel_rfl)) (by decide) (fun K hK => ?_)
            have hs161 : w159.cell? ⟨gb286, 0, none⟩ = some (.slice none 0 0) := yc BK286.out 0
            have hfs161 := yZ BK286.out 0
            have hns161_0 := NB218_286.out
            have hns161_1 := NB219_286.out
            have hns161_2 := NB237_286.out
            have hns161_3 := NB244_286.out
            have hns161_4 := NB254_286.out
            have hms161_0 := NB286_218.out
            have hms161_1 := NB286_219.out
            have hms161_2 := NB286_237.out
            have hms161_3 := NB286_244.out
            have hms161_4 := NB286_254.out
            have hs163 : w159.cell? ⟨gb286, 1, none⟩ = some (.slice none 0 0) := yc BK286.out 1
            have hfs163 := yZ BK286.out 1
            have hns163_0 := NB218_286.out
            have hns163_1 := NB219_286.out
            have hns163_2 := NB237_286.out
            have hns163_3 := NB244_286.out
            have hns163_4 := NB254_286.out
            have hms163_0 := NB286_218.out
            have hms163_1 := NB286_219.out
            have hms163_2 := NB286_237.out
            have hms163_3 := NB286_244.out
            have hms163_4 := NB286_254.out
            refine skip_ (w1 := ?_) (by rfl) rfl ?_ ?_
            rotate_left
            ·go_simp
             rfl
            refine hK.out _ _ ⟨((cell_far (p := ⟨gb286, _, none⟩) NB218_286.out _).trans (((cell_far (p := ⟨gb286, _, none⟩) NB218_286.out _).trans (hHeld.1)))), ((cell_far (p := ⟨gb286, _, none⟩) NB218_286.out _).trans (((cell_far (p := ⟨gb286, _, none⟩) NB218_286.out _).trans (hHeld.2.1)))), ((cell_far (p := ⟨gb286, _, none⟩) NB219_286.out _).trans (((cell_far (p := ⟨gb286, _, none⟩) NB219_286.out _).trans (hHeld.2.2.1)))), ((cell_far (p := ⟨gb286, _, none⟩) NB219_286.out _).trans (((cell_far (p := ⟨gb286, _, none⟩) NB219_286.out _).trans (hHeld.2.2.2))))⟩ (fun hHeld => ?_)
            clear hK K
            refine pure_ (i := 10) (N := some 15) (v := ?_) (a' := ?_) #[tT,tT,tT,tT,tT,tT,tT,tT,tT,tT,tT] rfl rfl (any_of HT_.out (by kernel_rfl)) (fun _ _ _ h => h) (Or.inl ⟨by rfl, ?_⟩) ?_ ?_
            rotate_left
            ·intro w'
             go_simp
             with_reducible rfl
            rotate_left
            ·simp only [Act.put, qA, qB, qC, i64_w, i32_w]
             rfl
            refine done_ (done_of HT_.out (by kernel_rfl)) ?_
            go_upto_region 28 with (fail)
            go_cut [100] (fun v100 wc => ∃ (kq : Nat) (x100_142 : Bool), v100 = .bool x100_142 ∧ Aside0 (laws_FnExactWriteSector.j2 kq t267 x100_142 t268 t269 = some r) ∧ Aside0 (kq ≤ kj91) ∧ Aside0 (Kd.R Kd.string 9 wc w.heap.size (fun k_ => some k_ ≠ oB Ao49 t264.length co49 ∧ some k_ ≠ oB Ao61 t247.length co61 ∧ some k_ ≠ oB Ao160 t279.length co160) (.slice Ao41 t230.length co41) t230) ∧ Aside0 (Kd.R k42 42 wc w.heap.size (fun k_ => some k_ ≠ oB Ao54 t265.length co54 ∧ some k_ ≠ oB Ao63 t250.length co63 ∧ some k_ ≠ oB Ao162 t282.length co162) (.slice Ao43 t233.length co43) t233) ∧ Aside0 (Kd.R Kd.string 9 wc w.heap.size (fun k_ => some k_ ≠ oB Ao41 t230.length co41 ∧ some k_ ≠ oB Ao61 t247.length co61 ∧ some k_ ≠ oB Ao160 t279.length co160) (.slice Ao49 t264.length co49) t264) ∧ Aside0 (Kd.R k42 42 wc w.heap.size (fun k_ => some k_ ≠ oB Ao43 t233.length co43 ∧ some k_ ≠ oB Ao63 t250.length co63 ∧ some k_ ≠ oB Ao162 t282.length co162) (.slice Ao54 t265.length co54) t265) ∧ Aside0 (Kd.R Kd.string 9 wc w.heap.size (fun k_ => some k_ ≠ oB Ao41 t230.length co41 ∧ some k_ ≠ oB Ao49 t264.length co49 ∧ some k_ ≠ oB Ao160 t279.length co160) (.slice Ao61 t247.length co61) t268) ∧ Aside0 (Kd.R k42 42 wc w.heap.size (fun k_ => some k_ ≠ oB Ao43 t233.length co43 ∧ some k_ ≠ oB Ao54 t265.length co54 ∧ some k_ ≠ oB Ao162 t282.length co162) (.slice Ao63 t250.length co63) t269) ∧ Aside0 (Kd.R Kd.string 9 wc w.heap.size (fun k_ => some k_ ≠ oB Ao41 t230.length co41 ∧ some k_ ≠ oB Ao49 t264.length co49 ∧ some k_ ≠ oB Ao61 t247.length co61) (.slice Ao160 t279.length co160) t279) ∧ Aside0 (Kd.R k42 42 wc w.heap.size (fun k_ => some k_ ≠ oB Ao43 t233.length co43 ∧ some k_ ≠ oB Ao54 t265.length co54 ∧ some k_ ≠ oB Ao63 t250.length co63) (.slice Ao162 t282.length co162) t282) ∧ Aside0 (wc.heap[gb218]? = some (.cells #[(.slice A0_0 l0_0.length c0_0), (.slice A0_1 l0_1.length c0_1)] 25 (0, 0))) ∧ Aside0 (wc.heap[gb219]? = some (.cells #[.int .i64 a1_0, .string a1_1] 38 (0, 0))) ∧ Aside0 (wc.heap[gb237]? = some (.cells #[(.slice Ao41 t230.length co41), (.slice Ao43 t233.length co43)] 30 (0, 0))) ∧ Aside0 (wc.heap[gb244]? = some (.cells #[(.slice Ao49 t264.length co49), (.slice Ao54 t265.length co54)] 30 (0, 0))) ∧ Aside0 (wc.heap[gb254]? = some (.cells #[(.slice Ao61 t247.length co61), (.slice Ao63 t250.length co63)] 30 (0, 0))) ∧ Aside0 (wc.heap[gb286]? = some (.cells #[(.slice Ao160 t279.length co160), (.slice Ao162 t282.length co162)] 30 (0, 0))) ∧ Aside0 (Below w.heap.size w wc))
            case first =>
             have H := HC143.out
             clear HC143
             replace H := Option.bind_eq_some_iff.mp H
             obtain ⟨t287, A1640, H⟩ := H
             replace H : (if t287 = true then (laws_FnExactWriteSector.j2 kj91 t267 (t285 != t236) t268 t269) else (laws_FnExactWriteSector.j2 kj91 t267 true t268 t269)) = some r := H
             have A164 := aM A1640
             clear A1640
             by_cases c165 : t287 = true
             ·subst c165
              have H1 : (laws_FnExactWriteSector.j2 kj91 t267 (t285 != t236) t268 t269) = some r := by rw [if_pos rfl] at H; exact H
              clear H
              have H := H1
              clear H1
              have H' := aM H
              clear H
              have hnb166 := NB286_218.out
              have hnc166 := NB218_286.out
              have hnb167 := NB286_219.out
              have hnc167 := NB219_286.out
              have hnb168 := NB286_237.out
              have hnc168 := NB237_286.out
              have hnb169 := NB286_244.out
              have hnc169 := NB244_286.out
              have hnb170 := NB286_254.out
              have hnc170 := NB254_286.out
              have hcz171_0 : w159.cell? ⟨gb286, 0, none⟩ = some (.slice none 0 0) := yc BK286.out 0
              have hcz171_1 : w159.cell? ⟨gb286, 1, none⟩ = some (.slice none 0 0) := yc BK286.out 1
              have hfz171_0 := yZ BK286.out 0
              have hfz171_1 := yZ BK286.out 1
              have hnb172 := NB237_218.out
              have hnc172 := NB218_237.out
              have hnb173 := NB237_219.out
              have hnc173 := NB219_237.out
              have hnb174 := NB237_244.out
              have hnc174 := NB244_237.out
              have hnb175 := NB237_254.out
              have hnc175 := NB254_237.out
              have hcz176_0 : w159.cell? ⟨gb237, 0, none⟩ = some (.slice Ao41 t230.length co41) := yc BK237.out 0
              have hcz176_1 : w159.cell? ⟨gb237, 1, none⟩ = some (.slice Ao43 t233.length co43) := yc BK237.out 1
              have hfz176_0 := yZ BK237.out 0
              have hfz176_1 := yZ BK237.out 1
              go_wp2_with (first | ((with_reducible refine gate_callee (f := 17) rfl ?_); refine goesL_ (some 94) rfl rfl Try.func17 (by kernel_rfl) rfl #[.agg #[.slice Ao160 t279.length co160, .slice Ao162 t282.length co162], .agg #[.slice Ao41 t230.length co41, .slice Ao43 t233.length co43]] rfl (by (try simp only [List.map_toArray, List.map_cons, List.map_nil]); first | done | rfl | (simp only [List.length_drop, List.length_take]; rfl)) ?_; (with_reducible refine (laws_eqDevice.calls kj91 _ _ t279 _ _ t282 _ _ t230 _ _ t233 true _ ?side1 ?side2 ?side3 ?side4 ?side5 ?side6 ?side7 ?side8 A164.out).mono ?_); (case side1 => exact rC (n := t279.length) (c := co160) ((x2 HO281.out BK286.out (by decide) (.slice Ao160 t279.length co160) (.slice Ao162 t282.length co162)))); (case side2 => exact (Kd.R_reads' HO281.out).2.1); (case side3 => exact rC (n := t282.length) (c := co162) ((x2 HO284.out BK286.out (by decide) (.slice Ao160 t279.length co160) (.slice Ao162 t282.length co162)))); (case side4 => exact (Kd.R_reads' HO284.out).2.1); (case side5 => exact rC (n := t230.length) (c := co41) ((x2 p0'.out BK286.out (by decide) (.slice Ao160 t279.length co160) (.slice Ao162 t282.length co162)))); (case side6 => exact (Kd.R_reads' p0'.out).2.1); (case side7 => exact rC (n := t233.length) (c := co43) ((x2 p1'.out BK286.out (by decide) (.slice Ao160 t279.length co160) (.slice Ao162 t282.length co162)))); (case side8 => exact (Kd.R_reads' p1'.out).2.1); rintro e w177 ⟨rfl, hb⟩; refine ⟨_, rfl, ?_⟩; replace p0' := aM (xB (xH ((x2 p0'.out BK286.out (by decide) (.slice Ao160 t279.length co160) (.slice Ao162 t282.length co162)))) hb); replace p1' := aM (xB (xH ((x2 p1'.out BK286.out (by decide) (.slice Ao160 t279.length co160) (.slice Ao162 t282.length co162)))) hb); replace p2' := aM (xB (xH ((x2 p2'.out BK286.out (by decide) (.slice Ao160 t279.length co160) (.slice Ao162 t282.length co162)))) hb); replace p3' := aM (xB (xH ((x2 p3'.out BK286.out (by decide) (.slice Ao160 t279.length co160) (.slice Ao162 t282.length co162)))) hb); replace p4' := aM (xB (xH ((x2 p4'.out BK286.out (by decide) (.slice Ao160 t279.length co160) (.slice Ao162 t282.length co162)))) hb); replace p5' := aM (xB (xH ((x2 p5'.out BK286.out (by decide) (.slice Ao160 t279.length co160) (.slice Ao162 t282.length co162)))) hb); replace HO273 := aM (xB (xH ((x2 HO273.out BK286.out (by decide) (.slice Ao160 t279.length co160) (.slice Ao162 t282.length co162)))) hb); replace HO276 := aM (xB (xH ((x2 HO276.out BK286.out (by decide) (.slice Ao160 t279.length co160) (.slice Ao162 t282.length co162)))) hb); replace HO281 := aM (xB (xH ((x2 HO281.out BK286.out (by decide) (.slice Ao160 t279.length co160) (.slice Ao162 t282.length co162)))) hb); replace HO284 := aM (xB (xH ((x2 HO284.out BK286.out (by decide) (.slice Ao160 t279.length co160) (.slice Ao162 t282.length co162)))) hb); replace BK218 := aM (yB (g := gb218) (o := .cells #[.slice A0_0 l0_0.length c0_0, .slice A0_1 l0_1.length c0_1] 25 (0, 0)) (by (with_reducible repeat (first | refine yN ?_ _ | refine yD ?_ | refine yA ?_ _)); refine yF ?_ NB218_286.out _; (with_reducible repeat (first | refine yN ?_ _ | refine yD ?_ | refine yA ?_ _)); refine yF ?_ NB218_286.out _; (with_reducible repeat (first | refine yN ?_ _ | refine yD ?_ | refine yA ?_ _)); exact BK218.out) hb); replace BK219 := aM (yB (g := gb219) (o := .cells #[.int .i64 a1_0, .string a1_1] 38 (0, 0)) (by (with_reducible repeat (first | refine yN ?_ _ | refine yD ?_ | refine yA ?_ _)); refine yF ?_ NB219_286.out _; (with_reducible repeat (first | refine yN ?_ _ | refine yD ?_ | refine yA ?_ _)); refine yF ?_ NB219_286.out _; (with_reducible repeat (first | refine yN ?_ _ | refine yD ?_ | refine yA ?_ _)); exact BK219.out) hb); replace BK237 := aM (yB (g := gb237) (o := .cells #[.slice Ao41 t230.length co41, .slice Ao43 t233.length co43] 30 (0, 0)) (by (with_reducible repeat (first | refine yN ?_ _ | refine yD ?_ | refine yA ?_ _)); refine yF ?_ NB237_286.out _; (with_reducible repeat (first | refine yN ?_ _ | refine yD ?_ | refine yA ?_ _)); refine yF ?_ NB237_286.out _; (with_reducible repeat (first | refine yN ?_ _ | refine yD ?_ | refine yA ?_ _)); exact BK237.out) hb); replace BK244 := aM (yB (g := gb244) (o := .cells #[.slice Ao49 t264.length co49, .slice Ao54 t265.length co54] 30 (0, 0)) (by (with_reducible repeat (first | refine yN ?_ _ | refine yD ?_ | refine yA ?_ _)); refine yF ?_ NB244_286.out _; (with_reducible repeat (first | refine yN ?_ _ | refine yD ?_ | refine yA ?_ _)); refine yF ?_ NB244_286.out _; (with_reducible repeat (first | refine yN ?_ _ | refine yD ?_ | refine yA ?_ _)); exact BK244.out) hb); replace BK254 := aM (yB (g := gb254) (o := .cells #[.slice Ao61 t247.length co61, .slice Ao63 t250.length co63] 30 (0, 0)) (by (with_reducible repeat (first | refine yN ?_ _ | refine yD ?_ | refine yA ?_ _)); refine yF ?_ NB254_286.out _; (with_reducible repeat (first | refine yN ?_ _ | refine yD ?_ | refine yA ?_ _)); refine yF ?_ NB254_286.out _; (with_reducible repeat (first | refine yN ?_ _ | refine yD ?_ | refine yA ?_ _)); exact BK254.out) hb); replace BK286 := aM (yB (g := gb286) (o := .cells #[.slice Ao160 t279.length co160, .slice Ao162 t282.length co162] 30 (0, 0)) (by (with_reducible repeat (first | refine yN ?_ _ | refine yD ?_ | refine yA ?_ _)); refine yP (cs := #[.slice Ao160 t279.length co160, .slice none 0 0]) ?_ 1 _ rfl; (with_reducible repeat (first | refine yN ?_ _ | refine yD ?_ | refine yA ?_ _)); refine yP (cs := #[.slice none 0 0, .slice none 0 0]) ?_ 0 _ rfl; (with_reducible repeat (first | refine yN ?_ _ | refine yD ?_ | refine yA ?_ _)); exact BK286.out) hb); replace HB := aM (zT (zH HB.out) hb); (try clear hb)))
              go_meet
              case rel => exact ⟨_, ((t285 != t236)), (by first | rfl | (simp; done) | (simp [*]; done)), H', ⟨by have := HJ24.out; have := HJ91.out; first | omega | exact Nat.le_refl _⟩, ⟨by (try simp only [hl245000_91]); (try simp only [hl245001_91]); (with_reducible repeat (first | apply xA | apply xN | apply xD)); exact xM p0'.out (fun _ hk => ⟨hk.2.2.1, ⟨hk.2.2.2, hk.2.1⟩⟩)⟩, ⟨by (try simp only [hl245000_91]); (try simp only [hl245001_91]); (with_reducible repeat (first | apply xA | apply xN | apply xD)); exact xM p1'.out (fun _ hk => ⟨hk.2.2.1, ⟨hk.2.2.2, hk.2.1⟩⟩)⟩, ⟨by (try simp only [hl245000_91]); (try simp only [hl245001_91]); (with_reducible repeat (first | apply xA | apply xN | apply xD)); exact xM p2'.out (fun _ hk => ⟨hk.2.2.1, ⟨hk.2.2.2, hk.2.1⟩⟩)⟩, ⟨by (try simp only [hl245000_91]); (try simp only [hl245001_91]); (with_reducible repeat (first | apply xA | apply xN | apply xD)); exact xM p3'.out (fun _ hk => ⟨hk.2.2.1, ⟨hk.2.2.2, hk.2.1⟩⟩)⟩, ⟨by (try simp only [hl245000_91]); (try simp only [hl245001_91]); (with_reducible repeat (first | apply xA | apply xN | apply xD)); exact xM p4'.out (fun _ hk => ⟨hk.2.2.1, ⟨hk.2.2.2, hk.2.1⟩⟩)⟩, ⟨by (try simp only [hl245000_91]); (try simp only [hl245001_91]); (with_reducible repeat (first | apply xA | apply xN | apply xD)); exact xM p5'.out (fun _ hk => ⟨hk.2.2.1, ⟨hk.2.2.2, hk.2.1⟩⟩)⟩, ⟨by (try simp only [hl245000_91]); (try simp only [hl245001_91]); (with_reducible repeat (first | apply xA | apply xN | apply xD)); exact xM HO281.out (fun _ hk => ⟨hk.2.1, ⟨hk.2.2.1, hk.2.2.2⟩⟩)⟩, ⟨by (try simp only [hl245000_91]); (try simp only [hl245001_91]); (with_reducible repeat (first | apply xA | apply xN | apply xD)); exact xM HO284.out (fun _ hk => ⟨hk.2.1, ⟨hk.2.2.1, hk.2.2.2⟩⟩)⟩, ⟨by (try simp only [hl245000_91]); (try simp only [hl245001_91]); (with_reducible repeat (first | refine yN ?_ _ | refine yD ?_ | refine yA ?_ _)); exact BK218.out⟩, ⟨by (try simp only [hl245000_91]); (try simp only [hl245001_91]); (with_reducible repeat (first | refine yN ?_ _ | refine yD ?_ | refine yA ?_ _)); exact BK219.out⟩, ⟨by (try simp only [hl245000_91]); (try simp only [hl245001_91]); (with_reducible repeat (first | refine yN ?_ _ | refine yD ?_ | refine yA ?_ _)); exact BK237.out⟩, ⟨by (try simp only [hl245000_91]); (try simp only [hl245001_91]); (with_reducible repeat (first | refine yN ?_ _ | refine yD ?_ | refine yA ?_ _)); exact BK244.out⟩, ⟨by (try simp only [hl245000_91]); (try simp only [hl245001_91]); (with_reducible repeat (first | refine yN ?_ _ | refine yD ?_ | refine yA ?_ _)); exact BK254.out⟩, ⟨by (try simp only [hl245000_91]); (try simp only [hl245001_91]); (with_reducible repeat (first | refine yN ?_ _ | refine yD ?_ | refine yA ?_ _)); exact BK286.out⟩, ⟨zH HB.out⟩⟩
             ·replace c165 := Bool.eq_false_iff.mpr c165
              subst c165
              have H1 : (laws_FnExactWriteSector.j2 kj91 t267 true t268 t269) = some r := by rw [if_neg (show ¬ (false = true) by decide)] at H; exact H
              clear H
              have H := H1
              clear H1
              have H' := aM H
              clear H
              have hnb178 := NB286_218.out
              have hnc178 := NB218_286.out
              have hnb179 := NB286_219.out
              have hnc179 := NB219_286.out
              have hnb180 := NB286_237.out
              have hnc180 := NB237_286.out
              have hnb181 := NB286_244.out
              have hnc181 := NB244_286.out
              have hnb182 := NB286_254.out
              have hnc182 := NB254_286.out
              have hcz183_0 : w159.cell? ⟨gb286, 0, none⟩ = some (.slice none 0 0) := yc BK286.out 0
              have hcz183_1 : w159.cell? ⟨gb286, 1, none⟩ = some (.slice none 0 0) := yc BK286.out 1
              have hfz183_0 := yZ BK286.out 0
              have hfz183_1 := yZ BK286.out 1
              have hnb184 := NB237_218.out
              have hnc184 := NB218_237.out
              have hnb185 := NB237_219.out
              have hnc185 := NB219_237.out
              have hnb186 := NB237_244.out
              have hnc186 := NB244_237.out
              have hnb187 := NB237_254.out
              have hnc187 := NB254_237.out
              have hcz188_0 : w159.cell? ⟨gb237, 0, none⟩ = some (.slice Ao41 t230.length co41) := yc BK237.out 0
              have hcz188_1 : w159.cell? ⟨gb237, 1, none⟩ = some (.slice Ao43 t233.length co43) := yc BK237.out 1
              have hfz188_0 := yZ BK237.out 0
              have hfz188_1 := yZ BK237.out 1
              go_wp2_with (first | ((with_reducible refine gate_callee (f := 17) rfl ?_); refine goesL_ (some 94) rfl rfl Try.func17 (by kernel_rfl) rfl #[.agg #[.slice Ao160 t279.length co160, .slice Ao162 t282.length co162], .agg #[.slice Ao41 t230.length co41, .slice Ao43 t233.length co43]] rfl (by (try simp only [List.map_toArray, List.map_cons, List.map_nil]); first | done | rfl | (simp only [List.length_drop, List.length_take]; rfl)) ?_; (with_reducible refine (laws_eqDevice.calls kj91 _ _ t279 _ _ t282 _ _ t230 _ _ t233 false _ ?side1 ?side2 ?side3 ?side4 ?side5 ?side6 ?side7 ?side8 A164.out).mono ?_); (case side1 => exact rC (n := t279.length) (c := co160) ((x2 HO281.out BK286.out (by decide) (.slice Ao160 t279.length co160) (.slice Ao162 t282.length co162)))); (case side2 => exact (Kd.R_reads' HO281.out).2.1); (case side3 => exact rC (n := t282.length) (c := co162) ((x2 HO284.out BK286.out (by decide) (.slice Ao160 t279.length co160) (.slice Ao162 t282.length co162)))); (case side4 => exact (Kd.R_reads' HO284.out).2.1); (case side5 => exact rC (n := t230.length) (c := co41) ((x2 p0'.out BK286.out (by decide) (.slice Ao160 t279.length co160) (.slice Ao162 t282.length co162)))); (case side6 => exact (Kd.R_reads' p0'.out).2.1); (case side7 => exact rC (n := t233.length) (c := co43) ((x2 p1'.out BK286.out (by decide) (.slice Ao160 t279.length co160) (.slice Ao162 t282.length co162)))); (case side8 => exact (Kd.R_reads' p1'.out).2.1); rintro e w189 ⟨rfl, hb⟩; refine ⟨_, rfl, ?_⟩; replace p0' := aM (xB (xH ((x2 p0'.out BK286.out (by decide) (.slice Ao160 t279.length co160) (.slice Ao162 t282.length co162)))) hb); replace p1' := aM (xB (xH ((x2 p1'.out BK286.out (by decide) (.slice Ao160 t279.length co160) (.slice Ao162 t282.length co162)))) hb); replace p2' := aM (xB (xH ((x2 p2'.out BK286.out (by decide) (.slice Ao160 t279.length co160) (.slice Ao162 t282.length co162)))) hb); replace p3' := aM (xB (xH ((x2 p3'.out BK286.out (by decide) (.slice Ao160 t279.length co160) (.slice Ao162 t282.length co162)))) hb); replace p4' := aM (xB (xH ((x2 p4'.out BK286.out (by decide) (.slice Ao160 t279.length co160) (.slice Ao162 t282.length co162)))) hb); replace p5' := aM (xB (xH ((x2 p5'.out BK286.out (by decide) (.slice Ao160 t279.length co160) (.slice Ao162 t282.length co162)))) hb); replace HO273 := aM (xB (xH ((x2 HO273.out BK286.out (by decide) (.slice Ao160 t279.length co160) (.slice Ao162 t282.length co162)))) hb); replace HO276 := aM (xB (xH ((x2 HO276.out BK286.out (by decide) (.slice Ao160 t279.length co160) (.slice Ao162 t282.length co162)))) hb); replace HO281 := aM (xB (xH ((x2 HO281.out BK286.out (by decide) (.slice Ao160 t279.length co160) (.slice Ao162 t282.length co162)))) hb); replace HO284 := aM (xB (xH ((x2 HO284.out BK286.out (by decide) (.slice Ao160 t279.length co160) (.slice Ao162 t282.length co162)))) hb); replace BK218 := aM (yB (g := gb218) (o := .cells #[.slice A0_0 l0_0.length c0_0, .slice A0_1 l0_1.length c0_1] 25 (0, 0)) (by (with_reducible repeat (first | refine yN ?_ _ | refine yD ?_ | refine yA ?_ _)); refine yF ?_ NB218_286.out _; (with_reducible repeat (first | refine yN ?_ _ | refine yD ?_ | refine yA ?_ _)); refine yF ?_ NB218_286.out _; (with_reducible repeat (first | refine yN ?_ _ | refine yD ?_ | refine yA ?_ _)); exact BK218.out) hb); replace BK219 := aM (yB (g := gb219) (o := .cells #[.int .i64 a1_0, .string a1_1] 38 (0, 0)) (by (with_reducible repeat (first | refine yN ?_ _ | refine yD ?_ | refine yA ?_ _)); refine yF ?_ NB219_286.out _; (with_reducible repeat (first | refine yN ?_ _ | refine yD ?_ | refine yA ?_ _)); refine yF ?_ NB219_286.out _; (with_reducible repeat (first | refine yN ?_ _ | refine yD ?_ | refine yA ?_ _)); exact BK219.out) hb); replace BK237 := aM (yB (g := gb237) (o := .cells #[.slice Ao41 t230.length co41, .slice Ao43 t233.length co43] 30 (0, 0)) (by (with_reducible repeat (first | refine yN ?_ _ | refine yD ?_ | refine yA ?_ _)); refine yF ?_ NB237_286.out _; (with_reducible repeat (first | refine yN ?_ _ | refine yD ?_ | refine yA ?_ _)); refine yF ?_ NB237_286.out _; (with_reducible repeat (first | refine yN ?_ _ | refine yD ?_ | refine yA ?_ _)); exact BK237.out) hb); replace BK244 := aM (yB (g := gb244) (o := .cells #[.slice Ao49 t264.length co49, .slice Ao54 t265.length co54] 30 (0, 0)) (by (with_reducible repeat (first | refine yN ?_ _ | refine yD ?_ | refine yA ?_ _)); refine yF ?_ NB244_286.out _; (with_reducible repeat (first | refine yN ?_ _ | refine yD ?_ | refine yA ?_ _)); refine yF ?_ NB244_286.out _; (with_reducible repeat (first | refine yN ?_ _ | refine yD ?_ | refine yA ?_ _)); exact BK244.out) hb); replace BK254 := aM (yB (g := gb254) (o := .cells #[.slice Ao61 t247.length co61, .slice Ao63 t250.length co63] 30 (0, 0)) (by (with_reducible repeat (first | refine yN ?_ _ | refine yD ?_ | refine yA ?_ _)); refine yF ?_ NB254_286.out _; (with_reducible repeat (first | refine yN ?_ _ | refine yD ?_ | refine yA ?_ _)); refine yF ?_ NB254_286.out _; (with_reducible repeat (first | refine yN ?_ _ | refine yD ?_ | refine yA ?_ _)); exact BK254.out) hb); replace BK286 := aM (yB (g := gb286) (o := .cells #[.slice Ao160 t279.length co160, .slice Ao162 t282.length co162] 30 (0, 0)) (by (with_reducible repeat (first | refine yN ?_ _ | refine yD ?_ | refine yA ?_ _)); refine yP (cs := #[.slice Ao160 t279.length co160, .slice none 0 0]) ?_ 1 _ rfl; (with_reducible repeat (first | refine yN ?_ _ | refine yD ?_ | refine yA ?_ _)); refine yP (cs := #[.slice none 0 0, .slice none 0 0]) ?_ 0 _ rfl; (with_reducible repeat (first | refine yN ?_ _ | refine yD ?_ | refine yA ?_ _)); exact BK286.out) hb); replace HB := aM (zT (zH HB.out) hb); (try clear hb)))
              go_meet
              case rel => exact ⟨_, (true), (by first | rfl | (simp; done) | (simp [*]; done)), H', ⟨by have := HJ24.out; have := HJ91.out; first | omega | exact Nat.le_refl _⟩, ⟨by (try simp only [hl245000_91]); (try simp only [hl245001_91]); (with_reducible repeat (first | apply xA | apply xN | apply xD)); exact xM p0'.out (fun _ hk => ⟨hk.2.2.1, ⟨hk.2.2.2, hk.2.1⟩⟩)⟩, ⟨by (try simp only [hl245000_91]); (try simp only [hl245001_91]); (with_reducible repeat (first | apply xA | apply xN | apply xD)); exact xM p1'.out (fun _ hk => ⟨hk.2.2.1, ⟨hk.2.2.2, hk.2.1⟩⟩)⟩, ⟨by (try simp only [hl245000_91]); (try simp only [hl245001_91]); (with_reducible repeat (first | apply xA | apply xN | apply xD)); exact xM p2'.out (fun _ hk => ⟨hk.2.2.1, ⟨hk.2.2.2, hk.2.1⟩⟩)⟩, ⟨by (try simp only [hl245000_91]); (try simp only [hl245001_91]); (with_reducible repeat (first | apply xA | apply xN | apply xD)); exact xM p3'.out (fun _ hk => ⟨hk.2.2.1, ⟨hk.2.2.2, hk.2.1⟩⟩)⟩, ⟨by (try simp only [hl245000_91]); (try simp only [hl245001_91]); (with_reducible repeat (first | apply xA | apply xN | apply xD)); exact xM p4'.out (fun _ hk => ⟨hk.2.2.1, ⟨hk.2.2.2, hk.2.1⟩⟩)⟩, ⟨by (try simp only [hl245000_91]); (try simp only [hl245001_91]); (with_reducible repeat (first | apply xA | apply xN | apply xD)); exact xM p5'.out (fun _ hk => ⟨hk.2.2.1, ⟨hk.2.2.2, hk.2.1⟩⟩)⟩, ⟨by (try simp only [hl245000_91]); (try simp only [hl245001_91]); (with_reducible repeat (first | apply xA | apply xN | apply xD)); exact xM HO281.out (fun _ hk => ⟨hk.2.1, ⟨hk.2.2.1, hk.2.2.2⟩⟩)⟩, ⟨by (try simp only [hl245000_91]); (try simp only [hl245001_91]); (with_reducible repeat (first | apply xA | apply xN | apply xD)); exact xM HO284.out (fun _ hk => ⟨hk.2.1, ⟨hk.2.2.1, hk.2.2.2⟩⟩)⟩, ⟨by (try simp only [hl245000_91]); (try simp only [hl245001_91]); (with_reducible repeat (first | refine yN ?_ _ | refine yD ?_ | refine yA ?_ _)); exact BK218.out⟩, ⟨by (try simp only [hl245000_91]); (try simp only [hl245001_91]); (with_reducible repeat (first | refine yN ?_ _ | refine yD ?_ | refine yA ?_ _)); exact BK219.out⟩, ⟨by (try simp only [hl245000_91]); (try simp only [hl245001_91]); (with_reducible repeat (first | refine yN ?_ _ | refine yD ?_ | refine yA ?_ _)); exact BK237.out⟩, ⟨by (try simp only [hl245000_91]); (try simp only [hl245001_91]); (with_reducible repeat (first | refine yN ?_ _ | refine yD ?_ | refine yA ?_ _)); exact BK244.out⟩, ⟨by (try simp only [hl245000_91]); (try simp only [hl245001_91]); (with_reducible repeat (first | refine yN ?_ _ | refine yD ?_ | refine yA ?_ _)); exact BK254.out⟩, ⟨by (try simp only [hl245000_91]); (try simp only [hl245001_91]); (with_reducible repeat (first | refine yN ?_ _ | refine yD ?_ | refine yA ?_ _)); exact BK286.out⟩, ⟨zH HB.out⟩⟩
            case rest =>
             clear HC143
             (try clear c1); (try clear c2); (try clear p2); (try clear c15); (try clear c16); (try clear c17); (try clear c18); (try clear c24); (try clear c25); (try clear c165); (try clear c166); (try clear c167); (try clear c168); (try clear c169); (try clear c170); (try clear c172); (try clear c173); (try clear c174); (try clear c175); (try clear c178); (try clear c179); (try clear c180); (try clear c181); (try clear c182); (try clear c184); (try clear c185); (try clear c186); (try clear c187); (try clear hcz171_0); (try clear hcz171_1); (try clear hcz176_0); (try clear hcz176_1); (try clear hcz183_0); (try clear hcz183_1); (try clear hcz188_0); (try clear hcz188_1); (try clear hfz171_0); (try clear hfz171_1); (try clear hfz176_0); (try clear hfz176_1); (try clear hfz183_0); (try clear hfz183_1); (try clear hfz188_0); (try clear hfz188_1)
             obtain ⟨kq, x100_142, rfl, HA, HJ142, p0', p1', p2', p3', p4', p5', p6', p7', BK218, BK219, BK237, BK244, BK254, BK286, HB⟩ := hcut
             have hl255000_142 := (Kd.R_reads' p4'.out).1
             rw [hl255000_142] at p4'
             (try simp only [hl255000_142])
             (try simp only [hl255000_142] at BK218)
             (try simp only [hl255000_142] at BK219)
             (try simp only [hl255000_142] at BK237)
             (try simp only [hl255000_142] at BK244)
             (try simp only [hl255000_142] at BK254)
             (try simp only [hl255000_142] at BK286)
             (try simp only [hl255000_142] at p0')
             (try simp only [hl255000_142] at p1')
             (try simp only [hl255000_142] at p2')
             (try simp only [hl255000_142] at p3')
             (try simp only [hl255000_142] at p5')
             (try simp only [hl255000_142] at p6')
             (try simp only [hl255000_142] at p7')
             have hl255001_142 := (Kd.R_reads' p5'.out).1
             rw [hl255001_142] at p5'
             (try simp only [hl255001_142])
             (try simp only [hl255001_142] at BK218)
             (try simp only [hl255001_142] at BK219)
             (try simp only [hl255001_142] at BK237)
             (try simp only [hl255001_142] at BK244)
             (try simp only [hl255001_142] at BK254)
             (try simp only [hl255001_142] at BK286)
             (try simp only [hl255001_142] at p0')
             (try simp only [hl255001_142] at p1')
             (try simp only [hl255001_142] at p2')
             (try simp only [hl255001_142] at p3')
             (try simp only [hl255001_142] at p4')
             (try simp only [hl255001_142] at p6')
             (try simp only [hl255001_142] at p7')
             cases kq with
             | zero => exact absurd HA.out (fun h_ => by change none = some _ at h_; cases h_)
             | succ kj142 =>
              have H := HA.out
              clear HA
              simp only [laws_FnExactWriteSector.j2] at H
              by_cases c190 : x100_142 = true
              ·subst c190
               have H1 : (some false) = some r := by rw [if_pos rfl] at H; exact H
               clear H
               have H := H1
               clear H1
               exact absurd (H.trans (congrArg some HR_.out)) (by decide)
              ·replace c190 := Bool.eq_false_iff.mpr c190
               subst c190
               have H1 : ((laws_heldDevice.f kj142 t268 t269 1).bind fun t288 => (if t288 < 0 then (some false) else (if t288 = t267 then (some true) else (some false)))) = some r := by rw [if_neg (show ¬ (false = true) by decide)] at H; exact H
               clear H
               have H := H1
               clear H1
               replace H := Option.bind_eq_some_iff.mp H
               obtain ⟨t288, A1910, H⟩ := H
               replace H : (if t288 < 0 then (some false) else (if t288 = t267 then (some true) else (some false))) = some r := H
               have A191 := aM A1910
               clear A1910
               by_cases c192 : t288 < 0
               ·rw [if_pos c192] at H
                have c192b0 : decide (t288 < 0) = true := decide_eq_true c192
                clear c192
                obtain rfl := Option.some.inj H
                have hnb193 := NB254_218.out
                have hnc193 := NB218_254.out
                have hnb194 := NB254_219.out
                have hnc194 := NB219_254.out
                have hnb195 := NB254_237.out
                have hnc195 := NB237_254.out
                have hnb196 := NB254_244.out
                have hnc196 := NB244_254.out
                have hnb197 := NB254_286.out
                have hnc197 := NB286_254.out
                have hcz198_0 : wc.cell? ⟨gb254, 0, none⟩ = some (.slice Ao61 t268.length co61) := yc BK254.out 0
                have hcz198_1 : wc.cell? ⟨gb254, 1, none⟩ = some (.slice Ao63 t269.length co63) := yc BK254.out 1
                have hfz198_0 := yZ BK254.out 0
                have hfz198_1 := yZ BK254.out 1
                go_wp2_with (first | ((with_reducible refine gate_callee (f := 27) rfl ?_); refine goesL_ (some 103) rfl rfl Try.func27 (by kernel_rfl) rfl #[.agg #[.slice Ao61 t268.length co61, .slice Ao63 t269.length co63], .int .i64 1] rfl (by (try simp only [List.map_toArray, List.map_cons, List.map_nil]); first | done | rfl | (simp only [List.length_drop, List.length_take]; rfl)) ?_; (with_reducible refine (laws_heldDevice.calls kj142 _ _ t268 _ _ t269 1 t288 _ ?side1 ?side2 ?side3 ?side4 A191.out).mono ?_); (case side1 => repeat (first | exact (Kd.R_reads' p4'.out).2.2 | (with_reducible refine cA ?_ _) | (with_reducible refine cN ?_ _) | (with_reducible refine cD ?_))); (case side2 => exact (Kd.R_reads' p4'.out).2.1); (case side3 => repeat (first | exact (Kd.R_reads' p5'.out).2.2 | (with_reducible refine cA ?_ _) | (with_reducible refine cN ?_ _) | (with_reducible refine cD ?_))); (case side4 => exact (Kd.R_reads' p5'.out).2.1); rintro e w199 ⟨rfl, hb⟩; refine ⟨_, rfl, ?_⟩; replace p0' := xK p0'.out hb; replace p1' := xK p1'.out hb; replace p2' := xK p2'.out hb; replace p3' := xK p3'.out hb; replace p4' := xK p4'.out hb; replace p5' := xK p5'.out hb; replace p6' := xK p6'.out hb; replace p7' := xK p7'.out hb; replace BK218 := yK BK218.out hb; replace BK219 := yK BK219.out hb; replace BK237 := yK BK237.out hb; replace BK244 := yK BK244.out hb; replace BK254 := yK BK254.out hb; replace BK286 := yK BK286.out hb; replace HB := aM (zT (zH HB.out) hb); (try clear hb)))
                go_ret
                exact ⟨by first | rfl | (simp [errW_none, errW_some] <;> rfl) | (simp [*, errW_none, errW_some] <;> rfl), zH HB.out⟩
               ·rw [if_neg c192] at H
                have c192b0 : decide (t288 < 0) = false := decide_eq_false c192
                clear c192
                by_cases c200 : t288 = t267
                ·rw [if_pos c200] at H
                 have c200b0 : (t288 == t267) = true := beq_iff_eq.mpr c200
                 have c200b1 : (t288 != t267) = false := bne_eq_false_iff_eq.mpr c200
                 clear c200
                 obtain rfl := Option.some.inj H
                 have hnb201 := NB254_218.out
                 have hnc201 := NB218_254.out
                 have hnb202 := NB254_219.out
                 have hnc202 := NB219_254.out
                 have hnb203 := NB254_237.out
                 have hnc203 := NB237_254.out
                 have hnb204 := NB254_244.out
                 have hnc204 := NB244_254.out
                 have hnb205 := NB254_286.out
                 have hnc205 := NB286_254.out
                 have hcz206_0 : wc.cell? ⟨gb254, 0, none⟩ = some (.slice Ao61 t268.length co61) := yc BK254.out 0
                 have hcz206_1 : wc.cell? ⟨gb254, 1, none⟩ = some (.slice Ao63 t269.length co63) := yc BK254.out 1
                 have hfz206_0 := yZ BK254.out 0
                 have hfz206_1 := yZ BK254.out 1
                 go_wp2_with (first | ((with_reducible refine gate_callee (f := 27) rfl ?_); refine goesL_ (some 103) rfl rfl Try.func27 (by kernel_rfl) rfl #[.agg #[.slice Ao61 t268.length co61, .slice Ao63 t269.length co63], .int .i64 1] rfl (by (try simp only [List.map_toArray, List.map_cons, List.map_nil]); first | done | rfl | (simp only [List.length_drop, List.length_take]; rfl)) ?_; (with_reducible refine (laws_heldDevice.calls kj142 _ _ t268 _ _ t269 1 t288 _ ?side1 ?side2 ?side3 ?side4 A191.out).mono ?_); (case side1 => repeat (first | exact (Kd.R_reads' p4'.out).2.2 | (with_reducible refine cA ?_ _) | (with_reducible refine cN ?_ _) | (with_reducible refine cD ?_))); (case side2 => exact (Kd.R_reads' p4'.out).2.1); (case side3 => repeat (first | exact (Kd.R_reads' p5'.out).2.2 | (with_reducible refine cA ?_ _) | (with_reducible refine cN ?_ _) | (with_reducible refine cD ?_))); (case side4 => exact (Kd.R_reads' p5'.out).2.1); rintro e w207 ⟨rfl, hb⟩; refine ⟨_, rfl, ?_⟩; replace p0' := xK p0'.out hb; replace p1' := xK p1'.out hb; replace p2' := xK p2'.out hb; replace p3' := xK p3'.out hb; replace p4' := xK p4'.out hb; replace p5' := xK p5'.out hb; replace p6' := xK p6'.out hb; replace p7' := xK p7'.out hb; replace BK218 := yK BK218.out hb; replace BK219 := yK BK219.out hb; replace BK237 := yK BK237.out hb; replace BK244 := yK BK244.out hb; replace BK254 := yK BK254.out hb; replace BK286 := yK BK286.out hb; replace HB := aM (zT (zH HB.out) hb); (try clear hb)))
                 go_ret
                 exact ⟨by first | rfl | (simp [errW_none, errW_some] <;> rfl) | (simp [*, errW_none, errW_some] <;> rfl), zH HB.out⟩
                ·rw [if_neg c200] at H
                 have c200b0 : (t288 == t267) = false := beq_eq_false_iff_ne.mpr c200
                 have c200b1 : (t288 != t267) = true := bne_iff_ne.mpr c200
                 obtain rfl := Option.some.inj H
                 have hnb208 := NB254_218.out
                 have hnc208 := NB218_254.out
                 have hnb209 := NB254_219.out
                 have hnc209 := NB219_254.out
                 have hnb210 := NB254_237.out
                 have hnc210 := NB237_254.out
                 have hnb211 := NB254_244.out
                 have hnc211 := NB244_254.out
                 have hnb212 := NB254_286.out
                 have hnc212 := NB286_254.out
                 have hcz213_0 : wc.cell? ⟨gb254, 0, none⟩ = some (.slice Ao61 t268.length co61) := yc BK254.out 0
                 have hcz213_1 : wc.cell? ⟨gb254, 1, none⟩ = some (.slice Ao63 t269.length co63) := yc BK254.out 1
                 have hfz213_0 := yZ BK254.out 0
                 have hfz213_1 := yZ BK254.out 1
                 go_wp2_with (first | ((with_reducible refine gate_callee (f := 27) rfl ?_); refine goesL_ (some 103) rfl rfl Try.func27 (by kernel_rfl) rfl #[.agg #[.slice Ao61 t268.length co61, .slice Ao63 t269.length co63], .int .i64 1] rfl (by (try simp only [List.map_toArray, List.map_cons, List.map_nil]); first | done | rfl | (simp only [List.length_drop, List.length_take]; rfl)) ?_; (with_reducible refine (laws_heldDevice.calls kj142 _ _ t268 _ _ t269 1 t288 _ ?side1 ?side2 ?side3 ?side4 A191.out).mono ?_); (case side1 => repeat (first | exact (Kd.R_reads' p4'.out).2.2 | (with_reducible refine cA ?_ _) | (with_reducible refine cN ?_ _) | (with_reducible refine cD ?_))); (case side2 => exact (Kd.R_reads' p4'.out).2.1); (case side3 => repeat (first | exact (Kd.R_reads' p5'.out).2.2 | (with_reducible refine cA ?_ _) | (with_reducible refine cN ?_ _) | (with_reducible refine cD ?_))); (case side4 => exact (Kd.R_reads' p5'.out).2.1); rintro e w214 ⟨rfl, hb⟩; refine ⟨_, rfl, ?_⟩; replace p0' := xK p0'.out hb; replace p1' := xK p1'.out hb; replace p2' := xK p2'.out hb; replace p3' := xK p3'.out hb; replace p4' := xK p4'.out hb; replace p5' := xK p5'.out hb; replace p6' := xK p6'.out hb; replace p7' := xK p7'.out hb; replace BK218 := yK BK218.out hb; replace BK219 := yK BK219.out hb; replace BK237 := yK BK237.out hb; replace BK244 := yK BK244.out hb; replace BK254 := yK BK254.out hb; replace BK286 := yK BK286.out hb; replace HB := aM (zT (zH HB.out) hb); (try clear hb)))
                 go_ret
                 exact ⟨by first | rfl | (simp [errW_none, errW_some] <;> rfl) | (simp [*, errW_none, errW_some] <;> rfl), zH HB.out⟩
           ·rw [if_neg c139] at H
            have c139b0 : (t270 == t267) = false := beq_eq_false_iff_ne.mpr c139
            have c139b1 : (t270 != t267) = true := bne_iff_ne.mpr c139
            obtain rfl := Option.some.inj H
            have hnb215 := NB254_218.out
            have hnc215 := NB218_254.out
            have hnb216 := NB254_219.out
            have hnc216 := NB219_254.out
            have hnb217 := NB254_237.out
            have hnc217 := NB237_254.out
            have hnb218 := NB254_244.out
            have hnc218 := NB244_254.out
            have hcz219_0 : wc.cell? ⟨gb254, 0, none⟩ = some (.slice Ao61 t247.length co61) := yc BK254.out 0
            have hcz219_1 : wc.cell? ⟨gb254, 1, none⟩ = some (.slice Ao63 t250.length co63) := yc BK254.out 1
            have hfz219_0 := yZ BK254.out 0
            have hfz219_1 := yZ BK254.out 1
            go_wp2_with (first | ((with_reducible refine gate_callee (f := 26) rfl ?_); refine goesL_ (some 75) rfl rfl Try.func26 (by kernel_rfl) rfl #[.agg #[.slice Ao61 t247.length co61, .slice Ao63 t250.length co63], .int .i64 1] rfl (by (try simp only [List.map_toArray, List.map_cons, List.map_nil]); first | done | rfl | (simp only [List.length_drop, List.length_take]; rfl)) ?_; (with_reducible refine (laws_markDevice.calls kj91 (fun k_ => some k_ = oB Ao61 t247.length co61) (.slice Ao61 t247.length co61) t247 (fun k_ => some k_ = oB Ao63 t250.length co63) (.slice Ao63 t250.length co63) t250 1 t267 t268 t269 w _ ?side1 ?side2 ?side3 A128.out).mono ?_); (case side1 => repeat (first | (with_reducible first | exact HB.out | apply zA | apply zN | apply zD | refine zS ?_ GE218.out | refine zS ?_ GE219.out | refine zS ?_ GE237.out | refine zS ?_ GE244.out | refine zS ?_ GE254.out) | exact HB.out)); (case side2 => exact Kd.R_tight rfl p4'.out); (case side3 => exact Kd.R_tight rfl p5'.out); rintro e w220 ⟨rfl, hy0, hy1, hb, hkp⟩; refine ⟨_, rfl, ?_⟩; replace p0' := aM (xM (ok' := fun k_ => some k_ ≠ oB Ao49 t264.length co49 ∧ some k_ ≠ oB Ao61 t247.length co61) (Kd.R_keptB ((Kd.R_apart' p0'.out (Kd.R_typed p5'.out) (by decide))) hkp (fun k_ hk_ hs_ => Or.elim hs_ (fun e_ => (hk_.1.2) e_) (fun e_ => (hk_.2) e_))) (fun k_ hk_ => ⟨hk_.1.1.1, hk_.1.1.2⟩)); replace p1' := aM (xM (ok' := fun k_ => some k_ ≠ oB Ao54 t265.length co54 ∧ some k_ ≠ oB Ao63 t250.length co63) (Kd.R_keptB ((Kd.R_apart' p1'.out (Kd.R_typed p4'.out) (by decide))) hkp (fun k_ hk_ hs_ => Or.elim hs_ (fun e_ => (hk_.2) e_) (fun e_ => (hk_.1.2) e_))) (fun k_ hk_ => ⟨hk_.1.1.1, hk_.1.1.2⟩)); replace p2' := aM (xM (ok' := fun k_ => some k_ ≠ oB Ao41 t230.length co41 ∧ some k_ ≠ oB Ao61 t247.length co61) (Kd.R_keptB ((Kd.R_apart' p2'.out (Kd.R_typed p5'.out) (by decide))) hkp (fun k_ hk_ hs_ => Or.elim hs_ (fun e_ => (hk_.1.2) e_) (fun e_ => (hk_.2) e_))) (fun k_ hk_ => ⟨hk_.1.1.1, hk_.1.1.2⟩)); replace p3' := aM (xM (ok' := fun k_ => some k_ ≠ oB Ao43 t233.length co43 ∧ some k_ ≠ oB Ao63 t250.length co63) (Kd.R_keptB ((Kd.R_apart' p3'.out (Kd.R_typed p4'.out) (by decide))) hkp (fun k_ hk_ hs_ => Or.elim hs_ (fun e_ => (hk_.2) e_) (fun e_ => (hk_.1.2) e_))) (fun k_ hk_ => ⟨hk_.1.1.1, hk_.1.1.2⟩)); replace BK218 := aM (blk_kept BK218.out hkp (fun hs_ => Or.elim hs_ (fun e_ => (fun e_ => (Kd.R_ne p4'.out BK218.out (by decide)) e_) e_) (fun e_ => (fun e_ => (Kd.R_ne p5'.out BK218.out (by decide)) e_) e_))); replace BK219 := aM (blk_kept BK219.out hkp (fun hs_ => Or.elim hs_ (fun e_ => (fun e_ => (Kd.R_ne p4'.out BK219.out (by decide)) e_) e_) (fun e_ => (fun e_ => (Kd.R_ne p5'.out BK219.out (by decide)) e_) e_))); replace BK237 := aM (blk_kept BK237.out hkp (fun hs_ => Or.elim hs_ (fun e_ => (fun e_ => (Kd.R_ne p4'.out BK237.out (by decide)) e_) e_) (fun e_ => (fun e_ => (Kd.R_ne p5'.out BK237.out (by decide)) e_) e_))); replace BK244 := aM (blk_kept BK244.out hkp (fun hs_ => Or.elim hs_ (fun e_ => (fun e_ => (Kd.R_ne p4'.out BK244.out (by decide)) e_) e_) (fun e_ => (fun e_ => (Kd.R_ne p5'.out BK244.out (by decide)) e_) e_))); replace BK254 := aM (blk_kept BK254.out hkp (fun hs_ => Or.elim hs_ (fun e_ => (fun e_ => (Kd.R_ne p4'.out BK254.out (by decide)) e_) e_) (fun e_ => (fun e_ => (Kd.R_ne p5'.out BK254.out (by decide)) e_) e_))); replace p4' := aM (Kd.R_reok rfl hy0 (fun k_ e_ => p4'.out.1 k_ e_)); replace p5' := aM (Kd.R_reok rfl hy1 (fun k_ e_ => p5'.out.1 k_ e_)); replace HB := aM (hb); (try clear hb); (try clear hkp); (try clear hy0); (try clear hy1); have hcz221_0 : w220.cell? ⟨gb254, 0, none⟩ = some (.slice Ao61 t247.length co61) := yc BK254.out 0; have hcz221_1 : w220.cell? ⟨gb254, 1, none⟩ = some (.slice Ao63 t250.length co63) := yc BK254.out 1; have hfz221_0 := yZ BK254.out 0; have hfz221_1 := yZ BK254.out 1) | ((with_reducible refine gate_callee (f := 27) rfl ?_); refine goesL_ (some 78) rfl rfl Try.func27 (by kernel_rfl) rfl #[.agg #[.slice Ao61 t268.length co61, .slice Ao63 t269.length co63], .int .i64 1] rfl (by (try simp only [List.map_toArray, List.map_cons, List.map_nil]); first | done | (rw [show t268.length = t247.length from (Kd.R_reads' p4'.out).1.symm, show t269.length = t250.length from (Kd.R_reads' p5'.out).1.symm] <;> rfl) | rfl | (simp only [List.length_drop, List.length_take]; rfl)) ?_; (with_reducible refine (laws_heldDevice.calls kj91 _ _ t268 _ _ t269 1 t270 _ ?side1 ?side2 ?side3 ?side4 A129.out).mono ?_); (case side1 => repeat (first | exact (Kd.R_reads' p4'.out).2.2 | (with_reducible refine cA ?_ _) | (with_reducible refine cN ?_ _) | (with_reducible refine cD ?_))); (case side2 => rw [show t268.length = t247.length from (Kd.R_reads' p4'.out).1.symm]; exact (Kd.R_reads' p4'.out).2.1); (case side3 => repeat (first | exact (Kd.R_reads' p5'.out).2.2 | (with_reducible refine cA ?_ _) | (with_reducible refine cN ?_ _) | (with_reducible refine cD ?_))); (case side4 => rw [show t269.length = t250.length from (Kd.R_reads' p5'.out).1.symm]; exact (Kd.R_reads' p5'.out).2.1); rintro e w222 ⟨rfl, hb⟩; refine ⟨_, rfl, ?_⟩; replace p0' := xK p0'.out hb; replace p1' := xK p1'.out hb; replace p2' := xK p2'.out hb; replace p3' := xK p3'.out hb; replace p4' := xK p4'.out hb; replace p5' := xK p5'.out hb; replace BK218 := yK BK218.out hb; replace BK219 := yK BK219.out hb; replace BK237 := yK BK237.out hb; replace BK244 := yK BK244.out hb; replace BK254 := yK BK254.out hb; replace HB := aM (zT (zH HB.out) hb); (try clear hb)))
            go_ret
            exact ⟨by first | rfl | (simp [errW_none, errW_some] <;> rfl) | (simp [*, errW_none, errW_some] <;> rfl), zH HB.out⟩
      ·replace c90 := Bool.eq_false_iff.mpr c90
       subst c90
       have H1 : (some false) = some r := by rw [if_neg (show ¬ (false = true) by decide)] at H; exact H
       clear H
       have H := H1
       clear H1
       exact absurd (H.trans (congrArg some HR_.out)) (by decide)
def okS38 (x : S38) : Prop := (Lit.int .i64 x.f0).wf = true ∧ x.f1.size ≤ maxLen
/-- The one pure statement of laws_FnExactWriteSector. -/
def laws_FnExactWriteSector.PureG : Prop := ∀ (l0_0 : List ByteArray) (l0_1 : List (S38)) (a1_0 : Int) (a1_1 : ByteArray), (l0_0.length ≤ maxLen ∧ ∀ x_ ∈ l0_0, x_.size ≤ maxLen) → (l0_1.length ≤ maxLen ∧ ∀ x_ ∈ l0_1, okS38 x_) → (Lit.int .i64 a1_0).wf = true → a1_1.size ≤ maxLen → ∃ k, laws_FnExactWriteSector.f k l0_0 l0_1 a1_0 a1_1 = some true

end Go.Proofs.Ytlhgkbleciokmaa.PFnExactWriteSector
