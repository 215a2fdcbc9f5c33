/- The walks of FnHamming: Go's calls come to what the Lean functions beside them say; no condition. -/
import Derived.Test.YtjibcpfgnnmfjaaQFnHammingx0
import Derived.Test.YtjibcpfgnnmfjaaQFnHammingx1
import Derived.Test.YtjibcpfgnnmfjaaQFnHammingx2
import Derived.Test.YtjibcpfgnnmfjaaQFnHammingx3
import Derived.Test.YtjibcpfgnnmfjaaQFnHammingx4
namespace Go.Proofs.Ytjibcpfgnnmfjaa.PFnHamming
open Go.RowKit Go.Proofs.YtjibcpfgnnmfjaaW.PrintWords Go.Proofs.YtjibcpfgnnmfjaaW.PrintLast Go.Proofs.YtjibcpfgnnmfjaaW.PrintMore
attribute [local go_sem] max2_int min2_int max_two min_two max_three min_three max_four min_four   -- for this text's walks alone
set_option linter.unusedVariables false
set_option linter.unusedSimpArgs false
set_option maxRecDepth 100000

/-! ### laws_FnHamming: function 13 -/
mutual
def laws_FnHamming.j0 : Nat → List Int → Int → Int → Bool → Bool → Option (Bool)
 | 0, _, _, _, _, _ => none
 | k + 1, x1, x5, x6, x7, x61 => if x61 = true then (some false) else (if x7 = true then ((impl_HamDecode.f k x6).bind fun bt211 => (if bt211.2.2 = true then (if bt211.1 = x5 then (laws_FnHamming.j1 k x1 x5 x6 (bt211.2.1 != 0)) else (laws_FnHamming.j1 k x1 x5 x6 true)) else (laws_FnHamming.j1 k x1 x5 x6 true))) else (laws_FnHamming.j5 k x1))
def laws_FnHamming.j5 : Nat → List Int → Option (Bool)
 | 0, _ => none
 | k + 1, x1 => (spec_DrawHamDecode.f k x1).bind fun t227 => ((impl_HamDecode.f k t227).bind fun bt228 => ((spec_HamDecode.f k t227).bind fun bt231 => ((impl_HamWeight.f t227).bind fun bt234 => ((spec_HamWeight.f k t227).bind fun bt236 => (if (bt228.2.2 == bt231.2.2) = true then (if bt228.1 = bt231.1 then (if bt228.2.1 = bt231.2.1 then (if (bt234.2 == bt236.2) = true then (some (bt234.1 == bt236.1)) else (some false)) else (some false)) else (some false)) else (some false))))))
def laws_FnHamming.j1 : Nat → List Int → Int → Int → Bool → Option (Bool)
 | 0, _, _, _, _ => none
 | k + 1, x1, x5, x6, x79 => if x79 = true then (some false) else (laws_FnHamming.l0 k x1 x5 x6 0)
def laws_FnHamming.l0 : Nat → List Int → Int → Int → Int → Option (Bool)
 | 0, _, _, _, _ => none
 | k + 1, x1, x5, x6, x13 => if x13 < 13 then (if 0 ≤ (IntKind.u64.wrap (x13)) then ((impl_HamDecode.f k (Go.bits .xor .i64 x6 (shl .i64 1 (IntKind.u64.wrap (x13))))).bind fun bt214 => (if bt214.2.2 = true then (if bt214.1 = x5 then (laws_FnHamming.j3 k x1 x5 x6 x13 (bt214.2.1 != 1)) else (laws_FnHamming.j3 k x1 x5 x6 x13 true)) else (laws_FnHamming.j3 k x1 x5 x6 x13 true))) else (none)) else ((laws_numberOf.f k x1).bind fun t220 => ((impl_HamEncode.f k (Int.tmod t220 256)).bind fun bt221 => ((impl_HamDistance.f x6 bt221.1).bind fun bt223 => (if bt221.2 = true then (if bt223.2 = true then (if bt223.1 = 0 then ((laws_numberOf.f k x1).bind fun t225 => (if ((bt223.1 == 0) != ((Int.tmod t225 256) == x5)) = true then (some false) else (laws_FnHamming.j5 k x1))) else (if bt223.1 < 4 then (some false) else ((laws_numberOf.f k x1).bind fun t226 => (if ((bt223.1 == 0) != ((Int.tmod t226 256) == x5)) = true then (some false) else (laws_FnHamming.j5 k x1))))) else (some false)) else (some false)))))
def laws_FnHamming.j3 : Nat → List Int → Int → Int → Int → Bool → Option (Bool)
 | 0, _, _, _, _, _ => none
 | k + 1, x1, x5, x6, x13, x104 => if x104 = true then (some false) else (laws_FnHamming.l1 k x1 x5 x6 x13 0)
def laws_FnHamming.l1 : Nat → List Int → Int → Int → Int → Int → Option (Bool)
 | 0, _, _, _, _, _ => none
 | k + 1, x1, x5, x6, x13, x17 => if x17 < x13 then (if 0 ≤ (IntKind.u64.wrap (x13)) then (if 0 ≤ (IntKind.u64.wrap (x17)) then ((impl_HamDecode.f k (Go.bits .xor .i64 (Go.bits .xor .i64 x6 (shl .i64 1 (IntKind.u64.wrap (x13)))) (shl .i64 1 (IntKind.u64.wrap (x17))))).bind fun bt217 => (if bt217.2.2 = true then (if bt217.1 = 0 then (if bt217.2.1 = 2 then (laws_FnHamming.l1 k x1 x5 x6 x13 (wrap64 (x17 + 1))) else (some false)) else (some false)) else (some false))) else (none)) else (none)) else (laws_FnHamming.l0 k x1 x5 x6 (wrap64 (x13 + 1)))
end
def laws_FnHamming.f (k : Nat) (l0 : List Int) (l1 : List Int) : Option (Bool) := if (wrap64 ((l0.length : Int) + (l1.length : Int))) > 1048576 then (some true) else ((spec_DrawHamEncode.f l0).bind fun t206 => ((impl_HamEncode.f k t206).bind fun bt207 => ((spec_HamEncode.f k t206).bind fun bt209 => (if (bt207.2 != bt209.2) = true then (laws_FnHamming.j0 k l1 t206 bt207.1 bt207.2 true) else (laws_FnHamming.j0 k l1 t206 bt207.1 bt207.2 (bt207.1 != bt209.1))))))
theorem laws_FnHamming.mono_l : ∀ k, (∀ y0 y1 y2 y3 y4, LeO (laws_FnHamming.j0 k y0 y1 y2 y3 y4) (laws_FnHamming.j0 (k + 1) y0 y1 y2 y3 y4)) ∧ (∀ y0, LeO (laws_FnHamming.j5 k y0) (laws_FnHamming.j5 (k + 1) y0)) ∧ (∀ y0 y1 y2 y3, LeO (laws_FnHamming.j1 k y0 y1 y2 y3) (laws_FnHamming.j1 (k + 1) y0 y1 y2 y3)) ∧ (∀ y0 y1 y2 y3, LeO (laws_FnHamming.l0 k y0 y1 y2 y3) (laws_FnHamming.l0 (k + 1) y0 y1 y2 y3)) ∧ (∀ y0 y1 y2 y3 y4, LeO (laws_FnHamming.j3 k y0 y1 y2 y3 y4) (laws_FnHamming.j3 (k + 1) y0 y1 y2 y3 y4)) ∧ (∀ y0 y1 y2 y3 y4, LeO (laws_FnHamming.l1 k y0 y1 y2 y3 y4) (laws_FnHamming.l1 (k + 1) y0 y1 y2 y3 y4))
 | 0 => ⟨fun _ _ _ _ _ r h => by simp [laws_FnHamming.j0] at h, fun _ r h => by simp [laws_FnHamming.j5] at h, fun _ _ _ _ r h => by simp [laws_FnHamming.j1] at h, fun _ _ _ _ r h => by simp [laws_FnHamming.l0] at h, fun _ _ _ _ _ r h => by simp [laws_FnHamming.j3] at h, fun _ _ _ _ _ r h => by simp [laws_FnHamming.l1] at h⟩
 | k + 1 => by
  obtain ⟨ih0, ih1, ih2, ih3, ih4, ih5⟩ := laws_FnHamming.mono_l k
  refine ⟨?_, ?_, ?_, ?_, ?_, ?_⟩
  ·intro y0 y1 y2 y3 y4
   unfold laws_FnHamming.j0
   repeat' first
   | (with_reducible exact ih0 _ _ _ _ _)
   | (with_reducible exact ih1 _)
   | (with_reducible exact ih2 _ _ _ _)
   | (with_reducible exact ih3 _ _ _ _)
   | (with_reducible exact ih4 _ _ _ _ _)
   | (with_reducible exact ih5 _ _ _ _ _)
   | (with_reducible exact impl_HamDecode.mono _ _)
   | (with_reducible exact impl_HamEncode.mono _ _)
   | (with_reducible exact laws_numberOf.mono _ _)
   | (with_reducible exact spec_DrawHamDecode.mono _ _)
   | (with_reducible exact spec_HamDecode.mono _ _)
   | (with_reducible exact spec_HamEncode.mono _ _)
   | (with_reducible exact spec_HamWeight.mono _ _)
   | (with_reducible exact LeO.refl _)
   | (with_reducible exact LeO.none _)
   | (with_reducible refine LeO.ite ?_ ?_)
   | (with_reducible refine LeO.bind ?_ (fun _ => ?_))
   | exact ih0 _ _ _ _ _
   | exact ih1 _
   | exact ih2 _ _ _ _
   | exact ih3 _ _ _ _
   | exact ih4 _ _ _ _ _
   | exact ih5 _ _ _ _ _
   | exact impl_HamDecode.mono _ _
   | exact impl_HamEncode.mono _ _
   | exact laws_numberOf.mono _ _
   | exact spec_DrawHamDecode.mono _ _
   | exact spec_HamDecode.mono _ _
   | exact spec_HamEncode.mono _ _
   | exact spec_HamWeight.mono _ _
   | exact LeO.none _
   | refine LeO.ite ?_ ?_
   | refine LeO.bind ?_ (fun _ => ?_)
  ·intro y0
   unfold laws_FnHamming.j5
   repeat' first
   | (with_reducible exact ih0 _ _ _ _ _)
   | (with_reducible exact ih1 _)
   | (with_reducible exact ih2 _ _ _ _)
   | (with_reducible exact ih3 _ _ _ _)
   | (with_reducible exact ih4 _ _ _ _ _)
   | (with_reducible exact ih5 _ _ _ _ _)
   | (with_reducible exact impl_HamDecode.mono _ _)
   | (with_reducible exact impl_HamEncode.mono _ _)
   | (with_reducible exact laws_numberOf.mono _ _)
   | (with_reducible exact spec_DrawHamDecode.mono _ _)
   | (with_reducible exact spec_HamDecode.mono _ _)
   | (with_reducible exact spec_HamEncode.mono _ _)
   | (with_reducible exact spec_HamWeight.mono _ _)
   | (with_reducible exact LeO.refl _)
   | (with_reducible exact LeO.none _)
   | (with_reducible refine LeO.ite ?_ ?_)
   | (with_reducible refine LeO.bind ?_ (fun _ => ?_))
   | exact ih0 _ _ _ _ _
   | exact ih1 _
   | exact ih2 _ _ _ _
   | exact ih3 _ _ _ _
   | exact ih4 _ _ _ _ _
   | exact ih5 _ _ _ _ _
   | exact impl_HamDecode.mono _ _
   | exact impl_HamEncode.mono _ _
   | exact laws_numberOf.mono _ _
   | exact spec_DrawHamDecode.mono _ _
   | exact spec_HamDecode.mono _ _
   | exact spec_HamEncode.mono _ _
   | exact spec_HamWeight.mono _ _
   | exact LeO.none _
   | refine LeO.ite ?_ ?_
   | refine LeO.bind ?_ (fun _ => ?_)
  ·intro y0 y1 y2 y3
   unfold laws_FnHamming.j1
   repeat' first
   | (with_reducible exact ih0 _ _ _ _ _)
   | (with_reducible exact ih1 _)
   | (with_reducible exact ih2 _ _ _ _)
   | (with_reducible exact ih3 _ _ _ _)
   | (with_reducible exact ih4 _ _ _ _ _)
   | (with_reducible exact ih5 _ _ _ _ _)
   | (with_reducible exact impl_HamDecode.mono _ _)
   | (with_reducible exact impl_HamEncode.mono _ _)
   | (with_reducible exact laws_numberOf.mono _ _)
   | (with_reducible exact spec_DrawHamDecode.mono _ _)
   | (with_reducible exact spec_HamDecode.mono _ _)
   | (with_reducible exact spec_HamEncode.mono _ _)
   | (with_reducible exact spec_HamWeight.mono _ _)
   | (with_reducible exact LeO.refl _)
   | (with_reducible exact LeO.none _)
   | (with_reducible refine LeO.ite ?_ ?_)
   | (with_reducible refine LeO.bind ?_ (fun _ => ?_))
   | exact ih0 _ _ _ _ _
   | exact ih1 _
   | exact ih2 _ _ _ _
   | exact ih3 _ _ _ _
   | exact ih4 _ _ _ _ _
   | exact ih5 _ _ _ _ _
   | exact impl_HamDecode.mono _ _
   | exact impl_HamEncode.mono _ _
   | exact laws_numberOf.mono _ _
   | exact spec_DrawHamDecode.mono _ _
   | exact spec_HamDecode.mono _ _
   | exact spec_HamEncode.mono _ _
   | exact spec_HamWeight.mono _ _
   | exact LeO.none _
   | refine LeO.ite ?_ ?_
   | refine LeO.bind ?_ (fun _ => ?_)
  ·intro y0 y1 y2 y3
   unfold laws_FnHamming.l0
   repeat' first
   | (with_reducible exact ih0 _ _ _ _ _)
   | (with_reducible exact ih1 _)
   | (with_reducible exact ih2 _ _ _ _)
   | (with_reducible exact ih3 _ _ _ _)
   | (with_reducible exact ih4 _ _ _ _ _)
   | (with_reducible exact ih5 _ _ _ _ _)
   | (with_reducible exact impl_HamDecode.mono _ _)
   | (with_reducible exact impl_HamEncode.mono _ _)
   | (with_reducible exact laws_numberOf.mono _ _)
   | (with_reducible exact spec_DrawHamDecode.mono _ _)
   | (with_reducible exact spec_HamDecode.mono _ _)
   | (with_reducible exact spec_HamEncode.mono _ _)
   | (with_reducible exact spec_HamWeight.mono _ _)
   | (with_reducible exact LeO.refl _)
   | (with_reducible exact LeO.none _)
   | (with_reducible refine LeO.ite ?_ ?_)
   | (with_reducible refine LeO.bind ?_ (fun _ => ?_))
   | exact ih0 _ _ _ _ _
   | exact ih1 _
   | exact ih2 _ _ _ _
   | exact ih3 _ _ _ _
   | exact ih4 _ _ _ _ _
   | exact ih5 _ _ _ _ _
   | exact impl_HamDecode.mono _ _
   | exact impl_HamEncode.mono _ _
   | exact laws_numberOf.mono _ _
   | exact spec_DrawHamDecode.mono _ _
   | exact spec_HamDecode.mono _ _
   | exact spec_HamEncode.mono _ _
   | exact spec_HamWeight.mono _ _
   | exact LeO.none _
   | refine LeO.ite ?_ ?_
   | refine LeO.bind ?_ (fun _ => ?_)
  ·intro y0 y1 y2 y3 y4
   unfold laws_FnHamming.j3
   repeat' first
   | (with_reducible exact ih0 _ _ _ _ _)
   | (with_reducible exact ih1 _)
   | (with_reducible exact ih2 _ _ _ _)
   | (with_reducible exact ih3 _ _ _ _)
   | (with_reducible exact ih4 _ _ _ _ _)
   | (with_reducible exact ih5 _ _ _ _ _)
   | (with_reducible exact impl_HamDecode.mono _ _)
   | (with_reducible exact impl_HamEncode.mono _ _)
   | (with_reducible exact laws_numberOf.mono _ _)
   | (with_reducible exact spec_DrawHamDecode.mono _ _)
   | (with_reducible exact spec_HamDecode.mono _ _)
   | (with_reducible exact spec_HamEncode.mono _ _)
   | (with_reducible exact spec_HamWeight.mono _ _)
   | (with_reducible exact LeO.refl _)
   | (with_reducible exact LeO.none _)
   | (with_reducible refine LeO.ite ?_ ?_)
   | (with_reducible refine LeO.bind ?_ (fun _ => ?_))
   | exact ih0 _ _ _ _ _
   | exact ih1 _
   | exact ih2 _ _ _ _
   | exact ih3 _ _ _ _
   | exact ih4 _ _ _ _ _
   | exact ih5 _ _ _ _ _
   | exact impl_HamDecode.mono _ _
   | exact impl_HamEncode.mono _ _
   | exact laws_numberOf.mono _ _
   | exact spec_DrawHamDecode.mono _ _
   | exact spec_HamDecode.mono _ _
   | exact spec_HamEncode.mono _ _
   | exact spec_HamWeight.mono _ _
   | exact LeO.none _
   | refine LeO.ite ?_ ?_
   | refine LeO.bind ?_ (fun _ => ?_)
  ·intro y0 y1 y2 y3 y4
   unfold laws_FnHamming.l1
   repeat' first
   | (with_reducible exact ih0 _ _ _ _ _)
   | (with_reducible exact ih1 _)
   | (with_reducible exact ih2 _ _ _ _)
   | (with_reducible exact ih3 _ _ _ _)
   | (with_reducible exact ih4 _ _ _ _ _)
   | (with_reducible exact ih5 _ _ _ _ _)
   | (with_reducible exact impl_HamDecode.mono _ _)
   | (with_reducible exact impl_HamEncode.mono _ _)
   | (with_reducible exact laws_numberOf.mono _ _)
   | (with_reducible exact spec_DrawHamDecode.mono _ _)
   | (with_reducible exact spec_HamDecode.mono _ _)
   | (with_reducible exact spec_HamEncode.mono _ _)
   | (with_reducible exact spec_HamWeight.mono _ _)
   | (with_reducible exact LeO.refl _)
   | (with_reducible exact LeO.none _)
   | (with_reducible refine LeO.ite ?_ ?_)
   | (with_reducible refine LeO.bind ?_ (fun _ => ?_))
   | exact ih0 _ _ _ _ _
   | exact ih1 _
   | exact ih2 _ _ _ _
   | exact ih3 _ _ _ _
   | exact ih4 _ _ _ _ _
   | exact ih5 _ _ _ _ _
   | exact impl_HamDecode.mono _ _
   | exact impl_HamEncode.mono _ _
   | exact laws_numberOf.mono _ _
   | exact spec_DrawHamDecode.mono _ _
   | exact spec_HamDecode.mono _ _
   | exact spec_HamEncode.mono _ _
   | exact spec_HamWeight.mono _ _
   | exact LeO.none _
   | refine LeO.ite ?_ ?_
   | refine LeO.bind ?_ (fun _ => ?_)
theorem laws_FnHamming.mono : ∀ a0 a1 k, LeO (laws_FnHamming.f k a0 a1) (laws_FnHamming.f (k + 1) a0 a1) := by
 intro a0 a1 k
 obtain ⟨ih0, ih1, ih2, ih3, ih4, ih5⟩ := laws_FnHamming.mono_l k
 unfold laws_FnHamming.f
 repeat' first
   | (with_reducible exact ih0 _ _ _ _ _)
   | (with_reducible exact ih1 _)
   | (with_reducible exact ih2 _ _ _ _)
   | (with_reducible exact ih3 _ _ _ _)
   | (with_reducible exact ih4 _ _ _ _ _)
   | (with_reducible exact ih5 _ _ _ _ _)
   | (with_reducible exact impl_HamDecode.mono _ _)
   | (with_reducible exact impl_HamEncode.mono _ _)
   | (with_reducible exact laws_numberOf.mono _ _)
   | (with_reducible exact spec_DrawHamDecode.mono _ _)
   | (with_reducible exact spec_HamDecode.mono _ _)
   | (with_reducible exact spec_HamEncode.mono _ _)
   | (with_reducible exact spec_HamWeight.mono _ _)
   | (with_reducible exact LeO.refl _)
   | (with_reducible exact LeO.none _)
   | (with_reducible refine LeO.ite ?_ ?_)
   | (with_reducible refine LeO.bind ?_ (fun _ => ?_))
   | exact ih0 _ _ _ _ _
   | exact ih1 _
   | exact ih2 _ _ _ _
   | exact ih3 _ _ _ _
   | exact ih4 _ _ _ _ _
   | exact ih5 _ _ _ _ _
   | exact impl_HamDecode.mono _ _
   | exact impl_HamEncode.mono _ _
   | exact laws_numberOf.mono _ _
   | exact spec_DrawHamDecode.mono _ _
   | exact spec_HamDecode.mono _ _
   | exact spec_HamEncode.mono _ _
   | exact spec_HamWeight.mono _ _
   | exact LeO.none _
   | refine LeO.ite ?_ ?_
   | refine LeO.bind ?_ (fun _ => ?_)
set_option maxHeartbeats 8000000 in
set_option maxRecDepth 100000 in
theorem laws_FnHamming.calls (k : Nat) (A0 : Option Addr) (c0 : Nat) (l0 : List Int) (A1 : Option Addr) (c1 : Nat) (l1 : List Int) (r : Bool) (w : World) (hr0 : Kd.C (Kd.int .u8) w A0 l0.length l0) (hc0 : l0.length ≤ c0) (hr1 : Kd.C (Kd.int .u8) w A1 l1.length l1) (hc1 : l1.length ≤ c1) (h : laws_FnHamming.f k l0 l1 = some r) (hr_ : r = true := by rfl) :
  Calls Try.prog 13 #[.slice A0 l0.length c0, .slice A1 l1.length c1] w fun e w' => e = .returned (.bool r) ∧ Below w.heap.size w w' := by
 have HR_ := aM hr_
 clear hr_
 have HR0 := aM hr0
 have HC0 := aM hc0
 clear hr0 hc0
 have HR1 := aM hr1
 have HC1 := aM hc1
 clear hr1 hc1
 have HB := aM (Below.refl w.heap.size w)
 have H : (if (wrap64 ((l0.length : Int) + (l1.length : Int))) > 1048576 then (some true) else ((spec_DrawHamEncode.f l0).bind fun t206 => ((impl_HamEncode.f k t206).bind fun bt207 => ((spec_HamEncode.f k t206).bind fun bt209 => (if (bt207.2 != bt209.2) = true then (laws_FnHamming.j0 k l1 t206 bt207.1 bt207.2 true) else (laws_FnHamming.j0 k l1 t206 bt207.1 bt207.2 (bt207.1 != bt209.1))))))) = some r := h
 clear h
 by_cases c3 : (wrap64 ((l0.length : Int) + (l1.length : Int))) > 1048576
 ·rw [if_pos c3] at H
  have c3b0 : decide (1048576 < (wrap64 ((l0.length : Int) + (l1.length : Int)))) = true := decide_eq_true c3
  clear c3
  obtain rfl := Option.some.inj H
  go_enter Try.func13, Try.ntmps13
  go_wp2
  go_ret
  exact ⟨by first | rfl | (simp [errW_none, errW_some] <;> rfl) | (simp [*, errW_none, errW_some] <;> rfl), zH HB.out⟩
 ·rw [if_neg c3] at H
  have c3b0 : decide (1048576 < (wrap64 ((l0.length : Int) + (l1.length : Int)))) = false := decide_eq_false c3
  clear c3
  replace H := Option.bind_eq_some_iff.mp H
  obtain ⟨t206, A40, H⟩ := H
  replace H : ((impl_HamEncode.f k t206).bind fun bt207 => ((spec_HamEncode.f k t206).bind fun bt209 => (if (bt207.2 != bt209.2) = true then (laws_FnHamming.j0 k l1 t206 bt207.1 bt207.2 true) else (laws_FnHamming.j0 k l1 t206 bt207.1 bt207.2 (bt207.1 != bt209.1))))) = some r := H
  have A4 := aM A40
  clear A40
  replace H := Option.bind_eq_some_iff.mp H
  obtain ⟨⟨t207, t208⟩, A50, H⟩ := H
  replace H : ((spec_HamEncode.f k t206).bind fun bt209 => (if (t208 != bt209.2) = true then (laws_FnHamming.j0 k l1 t206 t207 t208 true) else (laws_FnHamming.j0 k l1 t206 t207 t208 (t207 != bt209.1)))) = some r := H
  have A5 := aM A50
  clear A50
  replace H := Option.bind_eq_some_iff.mp H
  obtain ⟨⟨t209, t210⟩, A60, H⟩ := H
  replace H : (if (t208 != t210) = true then (laws_FnHamming.j0 k l1 t206 t207 t208 true) else (laws_FnHamming.j0 k l1 t206 t207 t208 (t207 != t209))) = some r := H
  have A6 := aM A60
  clear A60
  have HC7 := aM H
  clear H
  go_enter Try.func13, Try.ntmps13
  go_upto_region 6 with (first | ((with_reducible refine gate_callee (f := 54) rfl ?_); refine goesL_ (some 43) rfl rfl Try.func54 (by kernel_rfl) rfl #[.slice A0 l0.length c0] rfl (by (try simp only [List.map_toArray, List.map_cons, List.map_nil]); first | done | rfl | (simp only [List.length_drop, List.length_take]; rfl)) ?_; (with_reducible refine (spec_DrawHamEncode.calls _ _ l0 t206 _ ?side1 ?side2 A4.out).mono ?_); (case side1 => repeat (first | exact HR0.out | (with_reducible refine cA ?_ _) | (with_reducible refine cN ?_ _) | (with_reducible refine cD ?_))); (case side2 => exact HC0.out); rintro e w8 ⟨rfl, hb⟩; refine ⟨_, rfl, ?_⟩; replace HB := aM (zT (zH HB.out) hb); (try clear hb)) | ((with_reducible refine gate_callee (f := 37) rfl ?_); refine goesL_ (some 46) rfl rfl Try.func37 (by kernel_rfl) rfl #[.int .i64 t206] rfl (by (try simp only [List.map_toArray, List.map_cons, List.map_nil]); first | done | rfl | (simp only [List.length_drop, List.length_take]; rfl)) ?_; (with_reducible refine (impl_HamEncode.calls k t206 t207 t208 _ A5.out).mono ?_); rintro e w9 ⟨rfl, hb⟩; refine ⟨_, rfl, ?_⟩; replace HB := aM (zT (zH HB.out) hb); (try clear hb)) | ((with_reducible refine gate_callee (f := 36) rfl ?_); refine goesL_ (some 51) rfl rfl Try.func36 (by kernel_rfl) rfl #[.int .i64 t206] rfl (by (try simp only [List.map_toArray, List.map_cons, List.map_nil]); first | done | rfl | (simp only [List.length_drop, List.length_take]; rfl)) ?_; (with_reducible refine (spec_HamEncode.calls k t206 t209 t210 _ A6.out).mono ?_); rintro e w10 ⟨rfl, hb⟩; refine ⟨_, rfl, ?_⟩; replace HB := aM (zT (zH HB.out) hb); (try clear hb)))
  (try simp only [Act.put, qA, qB, qC])
  go_cut [61] (fun v61 wc => ∃ (kq : Nat) (x61_6 : Bool), v61 = .bool x61_6 ∧ Aside0 (laws_FnHamming.j0 kq l1 t206 t207 t208 x61_6 = some r) ∧ Aside0 (kq ≤ k) ∧ Aside0 (Below w.heap.size w wc))
  case first =>
   have H := HC7.out
   clear HC7
   by_cases c11 : (t208 != t210) = true
   ·rw [if_pos c11] at H
    have c11b0 : (t208 != t210) = true := c11
    (try (have c11b1 : decide (t208 = t210) = false := by simpa using c11))
    (try (have c11b2 : (t208 == t210) = false := by simpa using c11))
    (try (have c11b3 : ¬ (t208 = t210) := by simpa using c11))
    clear c11
    (first | rw [c11b0] | (simp only [i64_w, i32_w]; rw [c11b0]) | skip)
    have H' := aM H
    clear H
    go_wp2
    go_meet
    case rel => exact ⟨_, (true), (by first | rfl | (simp; done) | (simp [*]; done)), H', ⟨by first | omega | exact Nat.le_refl _⟩, ⟨zH HB.out⟩⟩
   ·rw [if_neg c11] at H
    have c11b0 : (t208 != t210) = false := by simpa using c11
    (try (have c11b1 : decide (t208 = t210) = true := by simpa using c11))
    (try (have c11b2 : (t208 == t210) = true := by simpa using c11))
    clear c11
    (first | rw [c11b0] | (simp only [i64_w, i32_w]; rw [c11b0]) | skip)
    have H' := aM H
    clear H
    go_wp2
    go_meet
    case rel => exact ⟨_, ((t207 != t209)), (by first | rfl | (simp; done) | (simp [*]; done)), H', ⟨by first | omega | exact Nat.le_refl _⟩, ⟨zH HB.out⟩⟩
  case rest => as_aux_lemma =>
   clear HC7
   (try clear c1); (try clear p2); (try clear c3); (try clear c3b0); (try clear c5); (try clear p6); (try clear c11); (try clear c11b0); (try clear c11b1); (try clear c11b2)
   obtain ⟨kq, x61_6, rfl, HA, HJ6, HB⟩ := hcut
   cases kq with
   | zero => exact absurd HA.out (fun h_ => by change none = some _ at h_; cases h_)
   | succ kj6 =>
    have H := HA.out
    clear HA
    simp only [laws_FnHamming.j0] at H
    by_cases c12 : x61_6 = true
    ·subst c12
     have H1 : (some false) = some r := by rw [if_pos rfl] at H; exact H
     clear H
     have H := H1
     clear H1
     exact absurd (H.trans (congrArg some HR_.out)) (by decide)
    ·replace c12 := Bool.eq_false_iff.mpr c12
     subst c12
     have H1 : (if t208 = true then ((impl_HamDecode.f kj6 t207).bind fun bt211 => (if bt211.2.2 = true then (if bt211.1 = t206 then (laws_FnHamming.j1 kj6 l1 t206 t207 (bt211.2.1 != 0)) else (laws_FnHamming.j1 kj6 l1 t206 t207 true)) else (laws_FnHamming.j1 kj6 l1 t206 t207 true))) else (laws_FnHamming.j5 kj6 l1)) = some r := by rw [if_neg (show ¬ (false = true) by decide)] at H; exact H
     clear H
     have H := H1
     clear H1
     have HC13 := aM H
     clear H
     go_upto_if 62 with (fail)
     go_cut [] (fun wc => ∃ (kq : Nat), Aside0 (laws_FnHamming.j5 kq l1 = some r) ∧ Aside0 (kq ≤ kj6) ∧ Aside0 (Below w.heap.size w wc))
     case first =>
      have H := HC13.out
      clear HC13
      by_cases c14 : t208 = true
      ·subst c14
       have H1 : ((impl_HamDecode.f kj6 t207).bind fun bt211 => (if bt211.2.2 = true then (if bt211.1 = t206 then (laws_FnHamming.j1 kj6 l1 t206 t207 (bt211.2.1 != 0)) else (laws_FnHamming.j1 kj6 l1 t206 t207 true)) else (laws_FnHamming.j1 kj6 l1 t206 t207 true))) = some r := by rw [if_pos rfl] at H; exact H
       clear H
       have H := H1
       clear H1
       replace H := Option.bind_eq_some_iff.mp H
       obtain ⟨⟨t211, t212, t213⟩, A150, H⟩ := H
       replace H : (if t213 = true then (if t211 = t206 then (laws_FnHamming.j1 kj6 l1 t206 t207 (t212 != 0)) else (laws_FnHamming.j1 kj6 l1 t206 t207 true)) else (laws_FnHamming.j1 kj6 l1 t206 t207 true)) = some r := H
       have A15 := aM A150
       clear A150
       have HC16 := aM H
       clear H
       go_upto_region 10 with (first | ((with_reducible refine gate_callee (f := 41) rfl ?_); refine goesL_ (some 65) rfl rfl Try.func41 (by kernel_rfl) rfl #[.int .i64 t207] rfl (by (try simp only [List.map_toArray, List.map_cons, List.map_nil]); first | done | rfl | (simp only [List.length_drop, List.length_take]; rfl)) ?_; (with_reducible refine (impl_HamDecode.calls kj6 t207 t211 t212 t213 _ A15.out).mono ?_); rintro e w17 ⟨rfl, hb⟩; refine ⟨_, rfl, ?_⟩; replace HB := aM (zT (zH HB.out) hb); (try clear hb)))
       (try simp only [Act.put, qA, qB, qC])
       go_cut [79] (fun v79 wc => ∃ (kq : Nat) (x79_15 : Bool), v79 = .bool x79_15 ∧ Aside0 (laws_FnHamming.j1 kq l1 t206 t207 x79_15 = some r) ∧ Aside0 (kq ≤ kj6) ∧ Aside0 (Below w.heap.size w wc))
       case first =>
        have H := HC16.out
        clear HC16
        by_cases c18 : t213 = true
        ·subst c18
         have H1 : (if t211 = t206 then (laws_FnHamming.j1 kj6 l1 t206 t207 (t212 != 0)) else (laws_FnHamming.j1 kj6 l1 t206 t207 true)) = some r := by rw [if_pos rfl] at H; exact H
         clear H
         have H := H1
         clear H1
         by_cases c19 : t211 = t206
         ·rw [if_pos c19] at H
          have c19b0 : (t211 == t206) = true := beq_iff_eq.mpr c19
          have c19b1 : (t211 != t206) = false := bne_eq_false_iff_eq.mpr c19
          clear c19
          (first | rw [c19b0] | (simp only [i64_w, i32_w]; rw [c19b0]) | skip)
          have H' := aM H
          clear H
          go_wp2
          go_meet
          case rel => exact ⟨_, ((t212 != 0)), (by first | rfl | (simp; done) | (simp [*]; done)), H', ⟨by have := HJ6.out; first | omega | exact Nat.le_refl _⟩, ⟨zH HB.out⟩⟩
         ·rw [if_neg c19] at H
          have c19b0 : (t211 == t206) = false := beq_eq_false_iff_ne.mpr c19
          have c19b1 : (t211 != t206) = true := bne_iff_ne.mpr c19
          (first | rw [c19b0] | (simp only [i64_w, i32_w]; rw [c19b0]) | skip)
          have H' := aM H
          clear H
          go_wp2
          go_meet
          case rel => exact ⟨_, (true), (by first | rfl | (simp; done) | (simp [*]; done)), H', ⟨by have := HJ6.out; first | omega | exact Nat.le_refl _⟩, ⟨zH HB.out⟩⟩
        ·replace c18 := Bool.eq_false_iff.mpr c18
         subst c18
         have H1 : (laws_FnHamming.j1 kj6 l1 t206 t207 true) = some r := by rw [if_neg (show ¬ (false = true) by decide)] at H; exact H
         clear H
         have H := H1
         clear H1
         have H' := aM H
         clear H
         go_wp2
         go_meet
         case rel => exact ⟨_, (true), (by first | rfl | (simp; done) | (simp [*]; done)), H', ⟨by have := HJ6.out; first | omega | exact Nat.le_refl _⟩, ⟨zH HB.out⟩⟩
       case rest => as_aux_lemma =>
        clear HC16
        (try clear c1); (try clear p2); (try clear c3); (try clear c3b0); (try clear c4); (try clear c5); (try clear p6); (try clear c11); (try clear c11b0); (try clear c11b1); (try clear c11b2); (try clear c12); (try clear c13); (try clear c14); (try clear c18); (try clear c19); (try clear c19b0); (try clear c19b1); (try clear p2); (try clear p6)
        obtain ⟨kq, x79_15, rfl, HA, HJ15, HB⟩ := hcut
        cases kq with
        | zero => exact absurd HA.out (fun h_ => by change none = some _ at h_; cases h_)
        | succ kj15 =>
         have H := HA.out
         clear HA
         simp only [laws_FnHamming.j1] at H
         by_cases c20 : x79_15 = true
         ·subst c20
          have H1 : (some false) = some r := by rw [if_pos rfl] at H; exact H
          clear H
          have H := H1
          clear H1
          exact absurd (H.trans (congrArg some HR_.out)) (by decide)
         ·replace c20 := Bool.eq_false_iff.mpr c20
          subst c20
          have H1 : (laws_FnHamming.l0 kj15 l1 t206 t207 0) = some r := by rw [if_neg (show ¬ (false = true) by decide)] at H; exact H
          clear H
          have H := H1
          clear H1
          have H' := aM H
          clear H
          go_wp2
          go_loopg [13] kj15 (fun kq v13 w' => ∃ (x13_3 : Int), v13 = .int .i64 x13_3 ∧ Aside0 (laws_FnHamming.l0 kq l1 t206 t207 x13_3 = some r) ∧ Aside0 (kq ≤ kj15) ∧ Aside0 (Below w.heap.size w w'))
          case atStart => exact ⟨(0), (by first | rfl | (simp; done) | (simp [*]; done)), H', ⟨Nat.le_refl _⟩, ⟨zH HB.out⟩⟩
          case round => as_aux_lemma =>
           clear H'
           (try clear c1); (try clear c2); (try clear p2); (try clear c3); (try clear c3b0); (try clear c4); (try clear c5); (try clear p6); (try clear c11); (try clear c11b0); (try clear c11b1); (try clear c11b2); (try clear c12); (try clear c13); (try clear c14); (try clear c18); (try clear c19); (try clear c19b0); (try clear c19b1); (try clear c20); (try clear p2); (try clear p6)
           obtain ⟨x13_3, rfl, HA, HK3, HB⟩ := hrel
           cases gk with
           | zero => exact absurd HA.out (fun h_ => by change none = some _ at h_; cases h_)
           | succ k3 =>
            have H := HA.out
            clear HA
            simp only [laws_FnHamming.l0] at H
            by_cases c21 : x13_3 < 13
            ·rw [if_pos c21] at H
             have c21b0 : decide (x13_3 < 13) = true := decide_eq_true c21
             clear c21
             obtain ⟨ji22, hji22⟩ : ∃ j_ : Int, (IntKind.u64.wrap (x13_3)) = j_ := ⟨_, rfl⟩
             replace H : (if 0 ≤ (ji22) then ((impl_HamDecode.f k3 (Go.bits .xor .i64 t207 (shl .i64 1 (ji22)))).bind fun bt214 => (if bt214.2.2 = true then (if bt214.1 = t206 then (laws_FnHamming.j3 k3 l1 t206 t207 x13_3 (bt214.2.1 != 1)) else (laws_FnHamming.j3 k3 l1 t206 t207 x13_3 true)) else (laws_FnHamming.j3 k3 l1 t206 t207 x13_3 true))) else (none)) = some r := by first | (rw [hji22] at H; exact H) | (simp only [hji22] at H ⊢; exact H)
             by_cases c23 : 0 ≤ (ji22)
             ·rw [if_pos c23] at H
              have c23b0 := eq_true c23
              have c23b1 : decide (0 ≤ (ji22)) = true := decide_eq_true c23
              clear c23
              obtain ⟨ji24, hji24⟩ : ∃ j_ : Int, (shl .i64 1 (ji22)) = j_ := ⟨_, rfl⟩
              replace H : ((impl_HamDecode.f k3 (Go.bits .xor .i64 t207 (ji24))).bind fun bt214 => (if bt214.2.2 = true then (if bt214.1 = t206 then (laws_FnHamming.j3 k3 l1 t206 t207 x13_3 (bt214.2.1 != 1)) else (laws_FnHamming.j3 k3 l1 t206 t207 x13_3 true)) else (laws_FnHamming.j3 k3 l1 t206 t207 x13_3 true))) = some r := by first | (rw [hji24] at H; exact H) | (simp only [hji24] at H ⊢; exact H)
              have hji24_ : (IntKind.i64.wrap (1 * 2 ^ min (ji22).toNat 64)) = ji24 := hji24
              have hji24z : (ji22) ≤ 64 → (IntKind.i64.wrap (1 * 2 ^ (ji22).toNat)) = ji24 := shl_small hji24
              have hji24u : (IntKind.i64.wrap (2 ^ min (ji22).toNat 64)) = ji24 := by have h_ := hji24_; rw [Int.one_mul] at h_; exact h_
              have hji24v : (ji22) ≤ 64 → (IntKind.i64.wrap (2 ^ (ji22).toNat)) = ji24 := fun hle_ => by have h_ := hji24z hle_; rw [Int.one_mul] at h_; exact h_
              have hji24y : (wrap64 (1 * 2 ^ min (ji22).toNat 64)) = ji24 := (i64_w _).symm.trans hji24_
              have hji24x : (ji22) ≤ 64 → (wrap64 (1 * 2 ^ (ji22).toNat)) = ji24 := fun h_ => (i64_w _).symm.trans (hji24z h_)
              replace H := Option.bind_eq_some_iff.mp H
              obtain ⟨⟨t214, t215, t216⟩, A250, H⟩ := H
              replace H : (if t216 = true then (if t214 = t206 then (laws_FnHamming.j3 k3 l1 t206 t207 x13_3 (t215 != 1)) else (laws_FnHamming.j3 k3 l1 t206 t207 x13_3 true)) else (laws_FnHamming.j3 k3 l1 t206 t207 x13_3 true)) = some r := H
              have A25 := aM A250
              clear A250
              have HC26 := aM H
              clear H
              go_upto_region 16 with (first | ((with_reducible refine gate_callee (f := 41) rfl ?_); refine goesL_ (some 90) rfl rfl Try.func41 (by kernel_rfl) rfl #[.int .i64 (Go.bits .xor .i64 t207 (ji24))] rfl (by (try simp only [List.map_toArray, List.map_cons, List.map_nil]); first | done | (simp only [hji24]; rfl) | rfl | (simp only [List.length_drop, List.length_take]; rfl)) ?_; (with_reducible refine (impl_HamDecode.calls k3 (Go.bits .xor .i64 t207 (ji24)) t214 t215 t216 _ A25.out).mono ?_); rintro e w27 ⟨rfl, hb⟩; refine ⟨_, rfl, ?_⟩; replace HB := aM (zT (zH HB.out) hb); (try clear hb)))
              (try simp only [Act.put, qA, qB, qC])
              go_cut [104] (fun v104 wc => ∃ (kq : Nat) (x104_25 : Bool), v104 = .bool x104_25 ∧ Aside0 (laws_FnHamming.j3 kq l1 t206 t207 x13_3 x104_25 = some r) ∧ Aside0 (kq ≤ k3) ∧ Aside0 (Below w.heap.size w wc))
              case first =>
               have H := HC26.out
               clear HC26
               by_cases c28 : t216 = true
               ·subst c28
                have H1 : (if t214 = t206 then (laws_FnHamming.j3 k3 l1 t206 t207 x13_3 (t215 != 1)) else (laws_FnHamming.j3 k3 l1 t206 t207 x13_3 true)) = some r := by rw [if_pos rfl] at H; exact H
                clear H
                have H := H1
                clear H1
                by_cases c29 : t214 = t206
                ·rw [if_pos c29] at H
                 have c29b0 : (t214 == t206) = true := beq_iff_eq.mpr c29
                 have c29b1 : (t214 != t206) = false := bne_eq_false_iff_eq.mpr c29
                 clear c29
                 (first | rw [c29b0] | (simp only [i64_w, i32_w]; rw [c29b0]) | skip)
                 have H' := aM H
                 clear H
                 go_wp2
                 go_meet
                 case rel => exact ⟨_, ((t215 != 1)), (by first | rfl | (simp; done) | (simp [*]; done)), H', ⟨by have := HJ6.out; have := HJ15.out; have := HK3.out; first | omega | exact Nat.le_refl _⟩, ⟨zH HB.out⟩⟩
                ·rw [if_neg c29] at H
                 have c29b0 : (t214 == t206) = false := beq_eq_false_iff_ne.mpr c29
                 have c29b1 : (t214 != t206) = true := bne_iff_ne.mpr c29
                 (first | rw [c29b0] | (simp only [i64_w, i32_w]; rw [c29b0]) | skip)
                 have H' := aM H
                 clear H
                 go_wp2
                 go_meet
                 case rel => exact ⟨_, (true), (by first | rfl | (simp; done) | (simp [*]; done)), H', ⟨by have := HJ6.out; have := HJ15.out; have := HK3.out; first | omega | exact Nat.le_refl _⟩, ⟨zH HB.out⟩⟩
               ·replace c28 := Bool.eq_false_iff.mpr c28
                subst c28
                have H1 : (laws_FnHamming.j3 k3 l1 t206 t207 x13_3 true) = some r := by rw [if_neg (show ¬ (false = true) by decide)] at H; exact H
                clear H
                have H := H1
                clear H1
                have H' := aM H
                clear H
                go_wp2
                go_meet
                case rel => exact ⟨_, (true), (by first | rfl | (simp; done) | (simp [*]; done)), H', ⟨by have := HJ6.out; have := HJ15.out; have := HK3.out; first | omega | exact Nat.le_refl _⟩, ⟨zH HB.out⟩⟩
              case rest => as_aux_lemma =>
               clear HC26
               (try clear c1); (try clear c2); (try clear p2); (try clear c3); (try clear c3b0); (try clear c4); (try clear c5); (try clear p6); (try clear c11); (try clear c11b0); (try clear c11b1); (try clear c11b2); (try clear c12); (try clear c13); (try clear c14); (try clear c18); (try clear c19); (try clear c19b0); (try clear c19b1); (try clear c20); (try clear c21); (try clear c21b0); (try clear c23); (try clear c23b0); (try clear c23b1); (try clear c28); (try clear c29); (try clear c29b0); (try clear c29b1); (try clear p2); (try clear p6)
               obtain ⟨kq, x104_25, rfl, HA, HJ25, HB⟩ := hcut
               cases kq with
               | zero => exact absurd HA.out (fun h_ => by change none = some _ at h_; cases h_)
               | succ kj25 =>
                have H := HA.out
                clear HA
                simp only [laws_FnHamming.j3] at H
                by_cases c30 : x104_25 = true
                ·subst c30
                 have H1 : (some false) = some r := by rw [if_pos rfl] at H; exact H
                 clear H
                 have H := H1
                 clear H1
                 exact absurd (H.trans (congrArg some HR_.out)) (by decide)
                ·replace c30 := Bool.eq_false_iff.mpr c30
                 subst c30
                 have H1 : (laws_FnHamming.l1 kj25 l1 t206 t207 x13_3 0) = some r := by rw [if_neg (show ¬ (false = true) by decide)] at H; exact H
                 clear H
                 have H := H1
                 clear H1
                 have H' := aM H
                 clear H
                 go_wp2
                 go_loopg [17] kj25 (fun kq v17 w' => ∃ (x17_5 : Int), v17 = .int .i64 x17_5 ∧ Aside0 (laws_FnHamming.l1 kq l1 t206 t207 x13_3 x17_5 = some r) ∧ Aside0 (kq ≤ kj25) ∧ Aside0 (Below w.heap.size w w'))
                 case atStart => exact ⟨(0), (by first | rfl | (simp; done) | (simp [*]; done)), H', ⟨Nat.le_refl _⟩, ⟨zH HB.out⟩⟩
                 case round => as_aux_lemma =>
                  clear H'
                  (try clear c1); (try clear c2); (try clear p2); (try clear c3); (try clear c3b0); (try clear c4); (try clear c5); (try clear p6); (try clear c11); (try clear c11b0); (try clear c11b1); (try clear c11b2); (try clear c12); (try clear c13); (try clear c14); (try clear c18); (try clear c19); (try clear c19b0); (try clear c19b1); (try clear c20); (try clear c21); (try clear c21b0); (try clear c23); (try clear c23b0); (try clear c23b1); (try clear c28); (try clear c29); (try clear c29b0); (try clear c29b1); (try clear c30); (try clear p2); (try clear p6)
                  obtain ⟨x17_5, rfl, HA, HK5, HB⟩ := hrel
                  cases gk with
                  | zero => exact absurd HA.out (fun h_ => by change none = some _ at h_; cases h_)
                  | succ k5 =>
                   have H := HA.out
                   clear HA
                   simp only [laws_FnHamming.l1] at H
                   by_cases c31 : x17_5 < x13_3
                   ·rw [if_pos c31] at H
                    have c31b0 : decide (x17_5 < x13_3) = true := decide_eq_true c31
                    clear c31
                    obtain ⟨ji32, hji32⟩ : ∃ j_ : Int, (IntKind.u64.wrap (x13_3)) = j_ := ⟨_, rfl⟩
                    obtain rfl : ji22 = ji32 := hji22.symm.trans hji32
                    replace H : (if 0 ≤ (ji22) then (if 0 ≤ (IntKind.u64.wrap (x17_5)) then ((impl_HamDecode.f k5 (Go.bits .xor .i64 (Go.bits .xor .i64 t207 (shl .i64 1 (ji22))) (shl .i64 1 (IntKind.u64.wrap (x17_5))))).bind fun bt217 => (if bt217.2.2 = true then (if bt217.1 = 0 then (if bt217.2.1 = 2 then (laws_FnHamming.l1 k5 l1 t206 t207 x13_3 (wrap64 (x17_5 + 1))) else (some false)) else (some false)) else (some false))) else (none)) else (none)) = some r := by first | (rw [hji32] at H; exact H) | (simp only [hji32] at H ⊢; exact H)
                    by_cases c33 : 0 ≤ (ji22)
                    ·rw [if_pos c33] at H
                     have c33b0 := eq_true c33
                     have c33b1 : decide (0 ≤ (ji22)) = true := decide_eq_true c33
                     clear c33
                     obtain ⟨ji34, hji34⟩ : ∃ j_ : Int, (shl .i64 1 (ji22)) = j_ := ⟨_, rfl⟩
                     obtain rfl : ji24 = ji34 := hji24.symm.trans hji34
                     replace H : (if 0 ≤ (IntKind.u64.wrap (x17_5)) then ((impl_HamDecode.f k5 (Go.bits .xor .i64 (Go.bits .xor .i64 t207 (ji24)) (shl .i64 1 (IntKind.u64.wrap (x17_5))))).bind fun bt217 => (if bt217.2.2 = true then (if bt217.1 = 0 then (if bt217.2.1 = 2 then (laws_FnHamming.l1 k5 l1 t206 t207 x13_3 (wrap64 (x17_5 + 1))) else (some false)) else (some false)) else (some false))) else (none)) = some r := by first | (rw [hji34] at H; exact H) | (simp only [hji34] at H ⊢; exact H)
                     have hji34_ : (IntKind.i64.wrap (1 * 2 ^ min (ji22).toNat 64)) = ji24 := hji34
                     have hji34z : (ji22) ≤ 64 → (IntKind.i64.wrap (1 * 2 ^ (ji22).toNat)) = ji24 := shl_small hji34
                     have hji34u : (IntKind.i64.wrap (2 ^ min (ji22).toNat 64)) = ji24 := by have h_ := hji34_; rw [Int.one_mul] at h_; exact h_
                     have hji34v : (ji22) ≤ 64 → (IntKind.i64.wrap (2 ^ (ji22).toNat)) = ji24 := fun hle_ => by have h_ := hji34z hle_; rw [Int.one_mul] at h_; exact h_
                     have hji34y : (wrap64 (1 * 2 ^ min (ji22).toNat 64)) = ji24 := (i64_w _).symm.trans hji34_
                     have hji34x : (ji22) ≤ 64 → (wrap64 (1 * 2 ^ (ji22).toNat)) = ji24 := fun h_ => (i64_w _).symm.trans (hji34z h_)
                     obtain ⟨ji35, hji35⟩ : ∃ j_ : Int, (IntKind.u64.wrap (x17_5)) = j_ := ⟨_, rfl⟩
                     replace H : (if 0 ≤ (ji35) then ((impl_HamDecode.f k5 (Go.bits .xor .i64 (Go.bits .xor .i64 t207 (ji24)) (shl .i64 1 (ji35)))).bind fun bt217 => (if bt217.2.2 = true then (if bt217.1 = 0 then (if bt217.2.1 = 2 then (laws_FnHamming.l1 k5 l1 t206 t207 x13_3 (wrap64 (x17_5 + 1))) else (some false)) else (some false)) else (some false))) else (none)) = some r := by first | (rw [hji35] at H; exact H) | (simp only [hji35] at H ⊢; exact H)
                     by_cases c36 : 0 ≤ (ji35)
                     ·rw [if_pos c36] at H
                      have c36b0 := eq_true c36
                      have c36b1 : decide (0 ≤ (ji35)) = true := decide_eq_true c36
                      clear c36
                      obtain ⟨ji37, hji37⟩ : ∃ j_ : Int, (shl .i64 1 (ji35)) = j_ := ⟨_, rfl⟩
                      replace H : ((impl_HamDecode.f k5 (Go.bits .xor .i64 (Go.bits .xor .i64 t207 (ji24)) (ji37))).bind fun bt217 => (if bt217.2.2 = true then (if bt217.1 = 0 then (if bt217.2.1 = 2 then (laws_FnHamming.l1 k5 l1 t206 t207 x13_3 (wrap64 (x17_5 + 1))) else (some false)) else (some false)) else (some false))) = some r := by first | (rw [hji37] at H; exact H) | (simp only [hji37] at H ⊢; exact H)
                      have hji37_ : (IntKind.i64.wrap (1 * 2 ^ min (ji35).toNat 64)) = ji37 := hji37
                      have hji37z : (ji35) ≤ 64 → (IntKind.i64.wrap (1 * 2 ^ (ji35).toNat)) = ji37 := shl_small hji37
                      have hji37u : (IntKind.i64.wrap (2 ^ min (ji35).toNat 64)) = ji37 := by have h_ := hji37_; rw [Int.one_mul] at h_; exact h_
                      have hji37v : (ji35) ≤ 64 → (IntKind.i64.wrap (2 ^ (ji35).toNat)) = ji37 := fun hle_ => by have h_ := hji37z hle_; rw [Int.one_mul] at h_; exact h_
                      have hji37y : (wrap64 (1 * 2 ^ min (ji35).toNat 64)) = ji37 := (i64_w _).symm.trans hji37_
                      have hji37x : (ji35) ≤ 64 → (wrap64 (1 * 2 ^ (ji35).toNat)) = ji37 := fun h_ => (i64_w _).symm.trans (hji37z h_)
                      replace H := Option.bind_eq_some_iff.mp H
                      obtain ⟨⟨t217, t218, t219⟩, A380, H⟩ := H
                      replace H : (if t219 = true then (if t217 = 0 then (if t218 = 2 then (laws_FnHamming.l1 k5 l1 t206 t207 x13_3 (wrap64 (x17_5 + 1))) else (some false)) else (some false)) else (some false)) = some r := H
                      have A38 := aM A380
                      clear A380
                      by_cases c39 : t219 = true
                      ·subst c39
                       have H1 : (if t217 = 0 then (if t218 = 2 then (laws_FnHamming.l1 k5 l1 t206 t207 x13_3 (wrap64 (x17_5 + 1))) else (some false)) else (some false)) = some r := by rw [if_pos rfl] at H; exact H
                       clear H
                       have H := H1
                       clear H1
                       by_cases c40 : t217 = 0
                       ·rw [if_pos c40] at H
                        have c40b0 : (t217 == 0) = true := beq_iff_eq.mpr c40
                        have c40b1 : (t217 != 0) = false := bne_eq_false_iff_eq.mpr c40
                        clear c40
                        by_cases c41 : t218 = 2
                        ·rw [if_pos c41] at H
                         have c41b0 : (t218 == 2) = true := beq_iff_eq.mpr c41
                         have c41b1 : (t218 != 2) = false := bne_eq_false_iff_eq.mpr c41
                         clear c41
                         have H' := aM H
                         clear H
                         go_wp2_with (first | ((with_reducible refine gate_callee (f := 41) rfl ?_); refine goesL_ (some 120) rfl rfl Try.func41 (by kernel_rfl) rfl #[.int .i64 (Go.bits .xor .i64 (Go.bits .xor .i64 t207 (ji24)) (ji37))] rfl (by (try simp only [List.map_toArray, List.map_cons, List.map_nil]); first | done | (simp only [hji34, hji37]; rfl) | rfl | (simp only [List.length_drop, List.length_take]; rfl)) ?_; (with_reducible refine (impl_HamDecode.calls k5 (Go.bits .xor .i64 (Go.bits .xor .i64 t207 (ji24)) (ji37)) t217 t218 true _ A38.out).mono ?_); rintro e w42 ⟨rfl, hb⟩; refine ⟨_, rfl, ?_⟩; replace HB := aM (zT (zH HB.out) hb); (try clear hb)))
                         go_roundg k5
                         case measure => have := HJ6.out; have := HJ15.out; have := HK3.out; have := HJ25.out; have := HK5.out; omega
                         case rel => exact ⟨(wrap64 (x17_5 + 1)), (by first | rfl | (simp; done) | (simp [*]; done)), H', ⟨by have := HJ6.out; have := HJ15.out; have := HK3.out; have := HJ25.out; have := HK5.out; omega⟩, ⟨zH HB.out⟩⟩
                        ·rw [if_neg c41] at H
                         have c41b0 : (t218 == 2) = false := beq_eq_false_iff_ne.mpr c41
                         have c41b1 : (t218 != 2) = true := bne_iff_ne.mpr c41
                         obtain rfl := Option.some.inj H
                         go_wp2_with (first | ((with_reducible refine gate_callee (f := 41) rfl ?_); refine goesL_ (some 120) rfl rfl Try.func41 (by kernel_rfl) rfl #[.int .i64 (Go.bits .xor .i64 (Go.bits .xor .i64 t207 (ji24)) (ji37))] rfl (by (try simp only [List.map_toArray, List.map_cons, List.map_nil]); first | done | (simp only [hji34, hji37]; rfl) | rfl | (simp only [List.length_drop, List.length_take]; rfl)) ?_; (with_reducible refine (impl_HamDecode.calls k5 (Go.bits .xor .i64 (Go.bits .xor .i64 t207 (ji24)) (ji37)) t217 t218 true _ A38.out).mono ?_); rintro e w43 ⟨rfl, hb⟩; refine ⟨_, rfl, ?_⟩; replace HB := aM (zT (zH HB.out) hb); (try clear hb)))
                         go_ret
                         exact ⟨by first | rfl | (simp [errW_none, errW_some] <;> rfl) | (simp only [← hji22, ← hji24, ← hji32, ← hji34, ← hji35, ← hji37]; first | rfl | (simp [errW_none, errW_some] <;> rfl)) | (simp [*, errW_none, errW_some] <;> rfl), zH HB.out⟩
                       ·rw [if_neg c40] at H
                        have c40b0 : (t217 == 0) = false := beq_eq_false_iff_ne.mpr c40
                        have c40b1 : (t217 != 0) = true := bne_iff_ne.mpr c40
                        obtain rfl := Option.some.inj H
                        go_wp2_with (first | ((with_reducible refine gate_callee (f := 41) rfl ?_); refine goesL_ (some 120) rfl rfl Try.func41 (by kernel_rfl) rfl #[.int .i64 (Go.bits .xor .i64 (Go.bits .xor .i64 t207 (ji24)) (ji37))] rfl (by (try simp only [List.map_toArray, List.map_cons, List.map_nil]); first | done | (simp only [hji34, hji37]; rfl) | rfl | (simp only [List.length_drop, List.length_take]; rfl)) ?_; (with_reducible refine (impl_HamDecode.calls k5 (Go.bits .xor .i64 (Go.bits .xor .i64 t207 (ji24)) (ji37)) t217 t218 true _ A38.out).mono ?_); rintro e w44 ⟨rfl, hb⟩; refine ⟨_, rfl, ?_⟩; replace HB := aM (zT (zH HB.out) hb); (try clear hb)))
                        go_ret
                        exact ⟨by first | rfl | (simp [errW_none, errW_some] <;> rfl) | (simp only [← hji22, ← hji24, ← hji32, ← hji34, ← hji35, ← hji37]; first | rfl | (simp [errW_none, errW_some] <;> rfl)) | (simp [*, errW_none, errW_some] <;> rfl), zH HB.out⟩
                      ·replace c39 := Bool.eq_false_iff.mpr c39
                       subst c39
                       have H1 : (some false) = some r := by rw [if_neg (show ¬ (false = true) by decide)] at H; exact H
                       clear H
                       have H := H1
                       clear H1
                       exact absurd (H.trans (congrArg some HR_.out)) (by decide)
                     ·rw [if_neg c36] at H
                      exact absurd H (by simp)
                    ·rw [if_neg c33] at H
                     exact absurd H (by simp)
                   ·rw [if_neg c31] at H
                    have c31b0 : decide (x17_5 < x13_3) = false := decide_eq_false c31
                    clear c31
                    have H' := aM H
                    clear H
                    go_wp2
                    go_roundg k5
                    case measure => have := HJ6.out; have := HJ15.out; have := HK3.out; have := HJ25.out; have := HK5.out; omega
                    case rel => exact ⟨(wrap64 (x13_3 + 1)), (by first | rfl | (simp; done) | (simp [*]; done)), H', ⟨by have := HJ6.out; have := HJ15.out; have := HK3.out; have := HJ25.out; have := HK5.out; omega⟩, ⟨zH HB.out⟩⟩
             ·rw [if_neg c23] at H
              exact absurd H (by simp)
            ·rw [if_neg c21] at H
             have c21b0 : decide (x13_3 < 13) = false := decide_eq_false c21
             clear c21
             replace H := Option.bind_eq_some_iff.mp H
             obtain ⟨t220, A460, H⟩ := H
             replace H : ((impl_HamEncode.f k3 (Int.tmod t220 256)).bind fun bt221 => ((impl_HamDistance.f t207 bt221.1).bind fun bt223 => (if bt221.2 = true then (if bt223.2 = true then (if bt223.1 = 0 then ((laws_numberOf.f k3 l1).bind fun t225 => (if ((bt223.1 == 0) != ((Int.tmod t225 256) == t206)) = true then (some false) else (laws_FnHamming.j5 k3 l1))) else (if bt223.1 < 4 then (some false) else ((laws_numberOf.f k3 l1).bind fun t226 => (if ((bt223.1 == 0) != ((Int.tmod t226 256) == t206)) = true then (some false) else (laws_FnHamming.j5 k3 l1))))) else (some false)) else (some false)))) = some r := H
             have A46 := aM A460
             clear A460
             replace H := Option.bind_eq_some_iff.mp H
             obtain ⟨⟨t221, t222⟩, A470, H⟩ := H
             replace H : ((impl_HamDistance.f t207 t221).bind fun bt223 => (if t222 = true then (if bt223.2 = true then (if bt223.1 = 0 then ((laws_numberOf.f k3 l1).bind fun t225 => (if ((bt223.1 == 0) != ((Int.tmod t225 256) == t206)) = true then (some false) else (laws_FnHamming.j5 k3 l1))) else (if bt223.1 < 4 then (some false) else ((laws_numberOf.f k3 l1).bind fun t226 => (if ((bt223.1 == 0) != ((Int.tmod t226 256) == t206)) = true then (some false) else (laws_FnHamming.j5 k3 l1))))) else (some false)) else (some false))) = some r := H
             have A47 := aM A470
             clear A470
             replace H := Option.bind_eq_some_iff.mp H
             obtain ⟨⟨t223, t224⟩, A480, H⟩ := H
             replace H : (if t222 = true then (if t224 = true then (if t223 = 0 then ((laws_numberOf.f k3 l1).bind fun t225 => (if ((t223 == 0) != ((Int.tmod t225 256) == t206)) = true then (some false) else (laws_FnHamming.j5 k3 l1))) else (if t223 < 4 then (some false) else ((laws_numberOf.f k3 l1).bind fun t226 => (if ((t223 == 0) != ((Int.tmod t226 256) == t206)) = true then (some false) else (laws_FnHamming.j5 k3 l1))))) else (some false)) else (some false)) = some r := H
             have A48 := aM A480
             clear A480
             by_cases c49 : t222 = true
             ·subst c49
              have H1 : (if t224 = true then (if t223 = 0 then ((laws_numberOf.f k3 l1).bind fun t225 => (if ((t223 == 0) != ((Int.tmod t225 256) == t206)) = true then (some false) else (laws_FnHamming.j5 k3 l1))) else (if t223 < 4 then (some false) else ((laws_numberOf.f k3 l1).bind fun t226 => (if ((t223 == 0) != ((Int.tmod t226 256) == t206)) = true then (some false) else (laws_FnHamming.j5 k3 l1))))) else (some false)) = some r := by rw [if_pos rfl] at H; exact H
              clear H
              have H := H1
              clear H1
              by_cases c50 : t224 = true
              ·subst c50
               have H1 : (if t223 = 0 then ((laws_numberOf.f k3 l1).bind fun t225 => (if ((t223 == 0) != ((Int.tmod t225 256) == t206)) = true then (some false) else (laws_FnHamming.j5 k3 l1))) else (if t223 < 4 then (some false) else ((laws_numberOf.f k3 l1).bind fun t226 => (if ((t223 == 0) != ((Int.tmod t226 256) == t206)) = true then (some false) else (laws_FnHamming.j5 k3 l1))))) = some r := by rw [if_pos rfl] at H; exact H
               clear H
               have H := H1
               clear H1
               by_cases c51 : t223 = 0
               ·rw [if_pos c51] at H
                have c51b0 : (t223 == 0) = true := beq_iff_eq.mpr c51
                have c51b1 : (t223 != 0) = false := bne_eq_false_iff_eq.mpr c51
                clear c51
                replace H := Option.bind_eq_some_iff.mp H
                obtain ⟨t225, A520, H⟩ := H
                replace H : (if ((t223 == 0) != ((Int.tmod t225 256) == t206)) = true then (some false) else (laws_FnHamming.j5 k3 l1)) = some r := H
                have A52 := aM A520
                clear A520
                by_cases c53 : ((t223 == 0) != ((Int.tmod t225 256) == t206)) = true
                ·rw [if_pos c53] at H
                 have c53b0 : ((t223 == 0) != ((Int.tmod t225 256) == t206)) = true := c53
                 have c53b7 : ((Int.tmod t225 256) == t206) = false := by have h_ := c53b0; rw [c51b0] at h_; simpa using h_
                 (try (have c53b1 : decide ((t223 == 0) = ((Int.tmod t225 256) == t206)) = false := by simpa using c53))
                 (try (have c53b2 : ((t223 == 0) == ((Int.tmod t225 256) == t206)) = false := by simpa using c53))
                 (try (have c53b3 : ¬ ((t223 == 0) = ((Int.tmod t225 256) == t206)) := by simpa using c53))
                 clear c53
                 obtain rfl := Option.some.inj H
                 go_wp2_with (first | ((with_reducible refine gate_callee (f := 55) rfl ?_); refine goesL_ (some 136) rfl rfl Try.func55 (by kernel_rfl) rfl #[.slice A1 l1.length c1] rfl (by (try simp only [List.map_toArray, List.map_cons, List.map_nil]); first | done | rfl | (simp only [List.length_drop, List.length_take]; rfl)) ?_; (with_reducible refine (laws_numberOf.calls k3 _ _ l1 t220 _ ?side1 ?side2 A46.out).mono ?_); (case side1 => exact cK HR1.out HB.out); (case side2 => exact HC1.out); rintro e w' ⟨rfl, ⟨nd, rfl⟩⟩; refine ⟨_, rfl, ?_⟩) | ((with_reducible refine gate_callee (f := 37) rfl ?_); refine goesL_ (some 138) rfl rfl Try.func37 (by kernel_rfl) rfl #[.int .i64 (Int.tmod t220 256)] rfl (by (try simp only [List.map_toArray, List.map_cons, List.map_nil]); first | done | rfl | (simp only [List.length_drop, List.length_take]; rfl)) ?_; (with_reducible refine (impl_HamEncode.calls k3 (Int.tmod t220 256) t221 true _ A47.out).mono ?_); rintro e w54 ⟨rfl, hb⟩; refine ⟨_, rfl, ?_⟩; replace HB := aM (zT (zH HB.out) hb); (try clear hb)) | ((with_reducible refine gate_callee (f := 56) rfl ?_); refine goesL_ (some 144) rfl rfl Try.func56 (by kernel_rfl) rfl #[.int .i64 t207, .int .i64 t221] rfl (by (try simp only [List.map_toArray, List.map_cons, List.map_nil]); first | done | rfl | (simp only [List.length_drop, List.length_take]; rfl)) ?_; (with_reducible refine (impl_HamDistance.calls t207 t221 t223 true _ A48.out).mono ?_); rintro e w' ⟨rfl, ⟨nd, rfl⟩⟩; refine ⟨_, rfl, ?_⟩) | (go_at_call 55; (with_reducible refine (laws_numberOf.calls k3 _ _ l1 t225 _ ?side1 ?side2 A52.out).mono ?_); (case side1 => repeat (first | exact (cB HR1.out (zH HB.out)) | (with_reducible refine cA ?_ _) | (with_reducible refine cN ?_ _) | (with_reducible refine cD ?_))); (case side2 => exact HC1.out); rintro e w' ⟨rfl, ⟨nd, rfl⟩⟩))
                 go_ret
                 exact ⟨by first | rfl | (simp [errW_none, errW_some] <;> rfl) | (simp [*, errW_none, errW_some] <;> rfl), zH HB.out⟩
                ·rw [if_neg c53] at H
                 have c53b0 : ((t223 == 0) != ((Int.tmod t225 256) == t206)) = false := by simpa using c53
                 have c53b7 : ((Int.tmod t225 256) == t206) = true := by have h_ := c53b0; rw [c51b0] at h_; simpa using h_
                 (try (have c53b1 : decide ((t223 == 0) = ((Int.tmod t225 256) == t206)) = true := by simpa using c53))
                 (try (have c53b2 : ((t223 == 0) == ((Int.tmod t225 256) == t206)) = true := by simpa using c53))
                 clear c53
                 have H' := aM H
                 clear H
                 go_wp2_with (first | ((with_reducible refine gate_callee (f := 55) rfl ?_); refine goesL_ (some 136) rfl rfl Try.func55 (by kernel_rfl) rfl #[.slice A1 l1.length c1] rfl (by (try simp only [List.map_toArray, List.map_cons, List.map_nil]); first | done | rfl | (simp only [List.length_drop, List.length_take]; rfl)) ?_; (with_reducible refine (laws_numberOf.calls k3 _ _ l1 t220 _ ?side1 ?side2 A46.out).mono ?_); (case side1 => exact cK HR1.out HB.out); (case side2 => exact HC1.out); rintro e w' ⟨rfl, ⟨nd, rfl⟩⟩; refine ⟨_, rfl, ?_⟩) | ((with_reducible refine gate_callee (f := 37) rfl ?_); refine goesL_ (some 138) rfl rfl Try.func37 (by kernel_rfl) rfl #[.int .i64 (Int.tmod t220 256)] rfl (by (try simp only [List.map_toArray, List.map_cons, List.map_nil]); first | done | rfl | (simp only [List.length_drop, List.length_take]; rfl)) ?_; (with_reducible refine (impl_HamEncode.calls k3 (Int.tmod t220 256) t221 true _ A47.out).mono ?_); rintro e w55 ⟨rfl, hb⟩; refine ⟨_, rfl, ?_⟩; replace HB := aM (zT (zH HB.out) hb); (try clear hb)) | ((with_reducible refine gate_callee (f := 56) rfl ?_); refine goesL_ (some 144) rfl rfl Try.func56 (by kernel_rfl) rfl #[.int .i64 t207, .int .i64 t221] rfl (by (try simp only [List.map_toArray, List.map_cons, List.map_nil]); first | done | rfl | (simp only [List.length_drop, List.length_take]; rfl)) ?_; (with_reducible refine (impl_HamDistance.calls t207 t221 t223 true _ A48.out).mono ?_); rintro e w' ⟨rfl, ⟨nd, rfl⟩⟩; refine ⟨_, rfl, ?_⟩) | (go_at_call 55; (with_reducible refine (laws_numberOf.calls k3 _ _ l1 t225 _ ?side1 ?side2 A52.out).mono ?_); (case side1 => repeat (first | exact (cB HR1.out (zH HB.out)) | (with_reducible refine cA ?_ _) | (with_reducible refine cN ?_ _) | (with_reducible refine cD ?_))); (case side2 => exact HC1.out); rintro e w' ⟨rfl, ⟨nd, rfl⟩⟩))
                 go_meet
                 case rel => exact ⟨_, H', ⟨by have := HJ6.out; have := HJ15.out; have := HK3.out; first | omega | exact Nat.le_refl _⟩, ⟨zH HB.out⟩⟩
               ·rw [if_neg c51] at H
                have c51b0 : (t223 == 0) = false := beq_eq_false_iff_ne.mpr c51
                have c51b1 : (t223 != 0) = true := bne_iff_ne.mpr c51
                by_cases c56 : t223 < 4
                ·rw [if_pos c56] at H
                 have c56b0 : decide (t223 < 4) = true := decide_eq_true c56
                 clear c56
                 obtain rfl := Option.some.inj H
                 go_wp2_with (first | ((with_reducible refine gate_callee (f := 55) rfl ?_); refine goesL_ (some 136) rfl rfl Try.func55 (by kernel_rfl) rfl #[.slice A1 l1.length c1] rfl (by (try simp only [List.map_toArray, List.map_cons, List.map_nil]); first | done | rfl | (simp only [List.length_drop, List.length_take]; rfl)) ?_; (with_reducible refine (laws_numberOf.calls k3 _ _ l1 t220 _ ?side1 ?side2 A46.out).mono ?_); (case side1 => exact cK HR1.out HB.out); (case side2 => exact HC1.out); rintro e w' ⟨rfl, ⟨nd, rfl⟩⟩; refine ⟨_, rfl, ?_⟩) | ((with_reducible refine gate_callee (f := 37) rfl ?_); refine goesL_ (some 138) rfl rfl Try.func37 (by kernel_rfl) rfl #[.int .i64 (Int.tmod t220 256)] rfl (by (try simp only [List.map_toArray, List.map_cons, List.map_nil]); first | done | rfl | (simp only [List.length_drop, List.length_take]; rfl)) ?_; (with_reducible refine (impl_HamEncode.calls k3 (Int.tmod t220 256) t221 true _ A47.out).mono ?_); rintro e w57 ⟨rfl, hb⟩; refine ⟨_, rfl, ?_⟩; replace HB := aM (zT (zH HB.out) hb); (try clear hb)) | ((with_reducible refine gate_callee (f := 56) rfl ?_); refine goesL_ (some 144) rfl rfl Try.func56 (by kernel_rfl) rfl #[.int .i64 t207, .int .i64 t221] rfl (by (try simp only [List.map_toArray, List.map_cons, List.map_nil]); first | done | rfl | (simp only [List.length_drop, List.length_take]; rfl)) ?_; (with_reducible refine (impl_HamDistance.calls t207 t221 t223 true _ A48.out).mono ?_); rintro e w' ⟨rfl, ⟨nd, rfl⟩⟩; refine ⟨_, rfl, ?_⟩))
                 go_ret
                 exact ⟨by first | rfl | (simp [errW_none, errW_some] <;> rfl) | (simp [*, errW_none, errW_some] <;> rfl), zH HB.out⟩
                ·rw [if_neg c56] at H
                 have c56b0 : decide (t223 < 4) = false := decide_eq_false c56
                 clear c56
                 replace H := Option.bind_eq_some_iff.mp H
                 obtain ⟨t226, A580, H⟩ := H
                 replace H : (if ((t223 == 0) != ((Int.tmod t226 256) == t206)) = true then (some false) else (laws_FnHamming.j5 k3 l1)) = some r := H
                 have A58 := aM A580
                 clear A580
                 by_cases c59 : ((t223 == 0) != ((Int.tmod t226 256) == t206)) = true
                 ·rw [if_pos c59] at H
                  have c59b0 : ((t223 == 0) != ((Int.tmod t226 256) == t206)) = true := c59
                  have c59b7 : ((Int.tmod t226 256) == t206) = true := by have h_ := c59b0; rw [c51b0] at h_; simpa using h_
                  (try (have c59b1 : decide ((t223 == 0) = ((Int.tmod t226 256) == t206)) = false := by simpa using c59))
                  (try (have c59b2 : ((t223 == 0) == ((Int.tmod t226 256) == t206)) = false := by simpa using c59))
                  (try (have c59b3 : ¬ ((t223 == 0) = ((Int.tmod t226 256) == t206)) := by simpa using c59))
                  clear c59
                  obtain rfl := Option.some.inj H
                  go_wp2_with (first | ((with_reducible refine gate_callee (f := 55) rfl ?_); refine goesL_ (some 136) rfl rfl Try.func55 (by kernel_rfl) rfl #[.slice A1 l1.length c1] rfl (by (try simp only [List.map_toArray, List.map_cons, List.map_nil]); first | done | rfl | (simp only [List.length_drop, List.length_take]; rfl)) ?_; (with_reducible refine (laws_numberOf.calls k3 _ _ l1 t220 _ ?side1 ?side2 A46.out).mono ?_); (case side1 => exact cK HR1.out HB.out); (case side2 => exact HC1.out); rintro e w' ⟨rfl, ⟨nd, rfl⟩⟩; refine ⟨_, rfl, ?_⟩) | ((with_reducible refine gate_callee (f := 37) rfl ?_); refine goesL_ (some 138) rfl rfl Try.func37 (by kernel_rfl) rfl #[.int .i64 (Int.tmod t220 256)] rfl (by (try simp only [List.map_toArray, List.map_cons, List.map_nil]); first | done | rfl | (simp only [List.length_drop, List.length_take]; rfl)) ?_; (with_reducible refine (impl_HamEncode.calls k3 (Int.tmod t220 256) t221 true _ A47.out).mono ?_); rintro e w60 ⟨rfl, hb⟩; refine ⟨_, rfl, ?_⟩; replace HB := aM (zT (zH HB.out) hb); (try clear hb)) | ((with_reducible refine gate_callee (f := 56) rfl ?_); refine goesL_ (some 144) rfl rfl Try.func56 (by kernel_rfl) rfl #[.int .i64 t207, .int .i64 t221] rfl (by (try simp only [List.map_toArray, List.map_cons, List.map_nil]); first | done | rfl | (simp only [List.length_drop, List.length_take]; rfl)) ?_; (with_reducible refine (impl_HamDistance.calls t207 t221 t223 true _ A48.out).mono ?_); rintro e w' ⟨rfl, ⟨nd, rfl⟩⟩; refine ⟨_, rfl, ?_⟩) | (go_at_call 55; (with_reducible refine (laws_numberOf.calls k3 _ _ l1 t226 _ ?side1 ?side2 A58.out).mono ?_); (case side1 => repeat (first | exact (cB HR1.out (zH HB.out)) | (with_reducible refine cA ?_ _) | (with_reducible refine cN ?_ _) | (with_reducible refine cD ?_))); (case side2 => exact HC1.out); rintro e w' ⟨rfl, ⟨nd, rfl⟩⟩))
                  go_ret
                  exact ⟨by first | rfl | (simp [errW_none, errW_some] <;> rfl) | (simp [*, errW_none, errW_some] <;> rfl), zH HB.out⟩
                 ·rw [if_neg c59] at H
                  have c59b0 : ((t223 == 0) != ((Int.tmod t226 256) == t206)) = false := by simpa using c59
                  have c59b7 : ((Int.tmod t226 256) == t206) = false := by have h_ := c59b0; rw [c51b0] at h_; simpa using h_
                  (try (have c59b1 : decide ((t223 == 0) = ((Int.tmod t226 256) == t206)) = true := by simpa using c59))
                  (try (have c59b2 : ((t223 == 0) == ((Int.tmod t226 256) == t206)) = true := by simpa using c59))
                  clear c59
                  have H' := aM H
                  clear H
                  go_wp2_with (first | ((with_reducible refine gate_callee (f := 55) rfl ?_); refine goesL_ (some 136) rfl rfl Try.func55 (by kernel_rfl) rfl #[.slice A1 l1.length c1] rfl (by (try simp only [List.map_toArray, List.map_cons, List.map_nil]); first | done | rfl | (simp only [List.length_drop, List.length_take]; rfl)) ?_; (with_reducible refine (laws_numberOf.calls k3 _ _ l1 t220 _ ?side1 ?side2 A46.out).mono ?_); (case side1 => exact cK HR1.out HB.out); (case side2 => exact HC1.out); rintro e w' ⟨rfl, ⟨nd, rfl⟩⟩; refine ⟨_, rfl, ?_⟩) | ((with_reducible refine gate_callee (f := 37) rfl ?_); refine goesL_ (some 138) rfl rfl Try.func37 (by kernel_rfl) rfl #[.int .i64 (Int.tmod t220 256)] rfl (by (try simp only [List.map_toArray, List.map_cons, List.map_nil]); first | done | rfl | (simp only [List.length_drop, List.length_take]; rfl)) ?_; (with_reducible refine (impl_HamEncode.calls k3 (Int.tmod t220 256) t221 true _ A47.out).mono ?_); rintro e w61 ⟨rfl, hb⟩; refine ⟨_, rfl, ?_⟩; replace HB := aM (zT (zH HB.out) hb); (try clear hb)) | ((with_reducible refine gate_callee (f := 56) rfl ?_); refine goesL_ (some 144) rfl rfl Try.func56 (by kernel_rfl) rfl #[.int .i64 t207, .int .i64 t221] rfl (by (try simp only [List.map_toArray, List.map_cons, List.map_nil]); first | done | rfl | (simp only [List.length_drop, List.length_take]; rfl)) ?_; (with_reducible refine (impl_HamDistance.calls t207 t221 t223 true _ A48.out).mono ?_); rintro e w' ⟨rfl, ⟨nd, rfl⟩⟩; refine ⟨_, rfl, ?_⟩) | (go_at_call 55; (with_reducible refine (laws_numberOf.calls k3 _ _ l1 t226 _ ?side1 ?side2 A58.out).mono ?_); (case side1 => repeat (first | exact (cB HR1.out (zH HB.out)) | (with_reducible refine cA ?_ _) | (with_reducible refine cN ?_ _) | (with_reducible refine cD ?_))); (case side2 => exact HC1.out); rintro e w' ⟨rfl, ⟨nd, rfl⟩⟩))
                  go_meet
                  case rel => exact ⟨_, H', ⟨by have := HJ6.out; have := HJ15.out; have := HK3.out; first | omega | exact Nat.le_refl _⟩, ⟨zH HB.out⟩⟩
              ·replace c50 := Bool.eq_false_iff.mpr c50
               subst c50
               have H1 : (some false) = some r := by rw [if_neg (show ¬ (false = true) by decide)] at H; exact H
               clear H
               have H := H1
               clear H1
               exact absurd (H.trans (congrArg some HR_.out)) (by decide)
             ·replace c49 := Bool.eq_false_iff.mpr c49
              subst c49
              have H1 : (some false) = some r := by rw [if_neg (show ¬ (false = true) by decide)] at H; exact H
              clear H
              have H := H1
              clear H1
              exact absurd (H.trans (congrArg some HR_.out)) (by decide)
      ·replace c14 := Bool.eq_false_iff.mpr c14
       subst c14
       have H1 : (laws_FnHamming.j5 kj6 l1) = some r := by rw [if_neg (show ¬ (false = true) by decide)] at H; exact H
       clear H
       have H := H1
       clear H1
       have H' := aM H
       clear H
       go_wp2
       go_meet
       case rel => exact ⟨_, H', ⟨by have := HJ6.out; first | omega | exact Nat.le_refl _⟩, ⟨zH HB.out⟩⟩
     case rest => as_aux_lemma =>
      clear HC13
      (try clear c1); (try clear c2); (try clear p2); (try clear c3); (try clear c3b0); (try clear c4); (try clear c5); (try clear p6); (try clear c11); (try clear c11b0); (try clear c11b1); (try clear c11b2); (try clear c12); (try clear c13); (try clear c14); (try clear c18); (try clear c19); (try clear c19b0); (try clear c19b1); (try clear c20); (try clear c21); (try clear c21b0); (try clear c23); (try clear c23b0); (try clear c23b1); (try clear c28); (try clear c29); (try clear c29b0); (try clear c29b1); (try clear c30); (try clear c31); (try clear c31b0); (try clear c33); (try clear c33b0); (try clear c33b1); (try clear c36); (try clear c36b0); (try clear c36b1); (try clear c37); (try clear c39); (try clear c40); (try clear c40b0); (try clear c40b1); (try clear c41); (try clear c41b0); (try clear c41b1); (try clear c49); (try clear c50); (try clear c51); (try clear c51b0); (try clear c51b1); (try clear c53); (try clear c53b0); (try clear c53b1); (try clear c53b2); (try clear c55); (try clear c56); (try clear c56b0); (try clear c59); (try clear c59b0); (try clear c59b1); (try clear c59b2); (try clear p2); (try clear p6)
      obtain ⟨kq, HA, HJ12, HB⟩ := hcut
      cases kq with
      | zero => exact absurd HA.out (fun h_ => by change none = some _ at h_; cases h_)
      | succ kj12 =>
       have H := HA.out
       clear HA
       simp only [laws_FnHamming.j5] at H
       replace H := Option.bind_eq_some_iff.mp H
       obtain ⟨t227, A640, H⟩ := H
       replace H : ((impl_HamDecode.f kj12 t227).bind fun bt228 => ((spec_HamDecode.f kj12 t227).bind fun bt231 => ((impl_HamWeight.f t227).bind fun bt234 => ((spec_HamWeight.f kj12 t227).bind fun bt236 => (if (bt228.2.2 == bt231.2.2) = true then (if bt228.1 = bt231.1 then (if bt228.2.1 = bt231.2.1 then (if (bt234.2 == bt236.2) = true then (some (bt234.1 == bt236.1)) else (some false)) else (some false)) else (some false)) else (some false)))))) = some r := H
       have A64 := aM A640
       clear A640
       replace H := Option.bind_eq_some_iff.mp H
       obtain ⟨⟨t228, t229, t230⟩, A650, H⟩ := H
       replace H : ((spec_HamDecode.f kj12 t227).bind fun bt231 => ((impl_HamWeight.f t227).bind fun bt234 => ((spec_HamWeight.f kj12 t227).bind fun bt236 => (if (t230 == bt231.2.2) = true then (if t228 = bt231.1 then (if t229 = bt231.2.1 then (if (bt234.2 == bt236.2) = true then (some (bt234.1 == bt236.1)) else (some false)) else (some false)) else (some false)) else (some false))))) = some r := H
       have A65 := aM A650
       clear A650
       replace H := Option.bind_eq_some_iff.mp H
       obtain ⟨⟨t231, t232, t233⟩, A660, H⟩ := H
       replace H : ((impl_HamWeight.f t227).bind fun bt234 => ((spec_HamWeight.f kj12 t227).bind fun bt236 => (if (t230 == t233) = true then (if t228 = t231 then (if t229 = t232 then (if (bt234.2 == bt236.2) = true then (some (bt234.1 == bt236.1)) else (some false)) else (some false)) else (some false)) else (some false)))) = some r := H
       have A66 := aM A660
       clear A660
       replace H := Option.bind_eq_some_iff.mp H
       obtain ⟨⟨t234, t235⟩, A670, H⟩ := H
       replace H : ((spec_HamWeight.f kj12 t227).bind fun bt236 => (if (t230 == t233) = true then (if t228 = t231 then (if t229 = t232 then (if (t235 == bt236.2) = true then (some (t234 == bt236.1)) else (some false)) else (some false)) else (some false)) else (some false))) = some r := H
       have A67 := aM A670
       clear A670
       replace H := Option.bind_eq_some_iff.mp H
       obtain ⟨⟨t236, t237⟩, A680, H⟩ := H
       replace H : (if (t230 == t233) = true then (if t228 = t231 then (if t229 = t232 then (if (t235 == t237) = true then (some (t234 == t236)) else (some false)) else (some false)) else (some false)) else (some false)) = some r := H
       have A68 := aM A680
       clear A680
       by_cases c69 : (t230 == t233) = true
       ·rw [if_pos c69] at H
        have c69b0 : (t230 == t233) = true := c69
        (try (have c69b1 : decide (t230 = t233) = true := by simpa using c69))
        (try (have c69b2 : (t230 == t233) = true := by simpa using c69))
        clear c69
        by_cases c70 : t228 = t231
        ·rw [if_pos c70] at H
         have c70b0 : (t228 == t231) = true := beq_iff_eq.mpr c70
         have c70b1 : (t228 != t231) = false := bne_eq_false_iff_eq.mpr c70
         clear c70
         by_cases c71 : t229 = t232
         ·rw [if_pos c71] at H
          have c71b0 : (t229 == t232) = true := beq_iff_eq.mpr c71
          have c71b1 : (t229 != t232) = false := bne_eq_false_iff_eq.mpr c71
          clear c71
          by_cases c72 : (t235 == t237) = true
          ·rw [if_pos c72] at H
           have c72b0 : (t235 == t237) = true := c72
           (try (have c72b1 : decide (t235 = t237) = true := by simpa using c72))
           (try (have c72b2 : (t235 == t237) = true := by simpa using c72))
           clear c72
           obtain rfl := Option.some.inj H
           go_wp2_with (first | ((with_reducible refine gate_callee (f := 57) rfl ?_); refine goesL_ (some 172) rfl rfl Try.func57 (by kernel_rfl) rfl #[.slice A1 l1.length c1] rfl (by (try simp only [List.map_toArray, List.map_cons, List.map_nil]); first | done | rfl | (simp only [List.length_drop, List.length_take]; rfl)) ?_; (with_reducible refine (spec_DrawHamDecode.calls kj12 _ _ l1 t227 _ ?side1 ?side2 A64.out).mono ?_); (case side1 => exact cK HR1.out HB.out); (case side2 => exact HC1.out); rintro e w73 ⟨rfl, hb⟩; refine ⟨_, rfl, ?_⟩; replace HB := aM (zT (zH HB.out) hb); (try clear hb)) | ((with_reducible refine gate_callee (f := 41) rfl ?_); refine goesL_ (some 175) rfl rfl Try.func41 (by kernel_rfl) rfl #[.int .i64 t227] rfl (by (try simp only [List.map_toArray, List.map_cons, List.map_nil]); first | done | rfl | (simp only [List.length_drop, List.length_take]; rfl)) ?_; (with_reducible refine (impl_HamDecode.calls kj12 t227 t228 t229 t230 _ A65.out).mono ?_); rintro e w74 ⟨rfl, hb⟩; refine ⟨_, rfl, ?_⟩; replace HB := aM (zT (zH HB.out) hb); (try clear hb)) | ((with_reducible refine gate_callee (f := 40) rfl ?_); refine goesL_ (some 181) rfl rfl Try.func40 (by kernel_rfl) rfl #[.int .i64 t227] rfl (by (try simp only [List.map_toArray, List.map_cons, List.map_nil]); first | done | rfl | (simp only [List.length_drop, List.length_take]; rfl)) ?_; (with_reducible refine (spec_HamDecode.calls kj12 t227 t231 t232 t233 _ A66.out).mono ?_); rintro e w75 ⟨rfl, hb⟩; refine ⟨_, rfl, ?_⟩; replace HB := aM (zT (zH HB.out) hb); (try clear hb)) | ((with_reducible refine gate_callee (f := 58) rfl ?_); refine goesL_ (some 187) rfl rfl Try.func58 (by kernel_rfl) rfl #[.int .i64 t227] rfl (by (try simp only [List.map_toArray, List.map_cons, List.map_nil]); first | done | rfl | (simp only [List.length_drop, List.length_take]; rfl)) ?_; (with_reducible refine (impl_HamWeight.calls t227 t234 t235 _ A67.out).mono ?_); rintro e w' ⟨rfl, ⟨nd, rfl⟩⟩; refine ⟨_, rfl, ?_⟩) | ((with_reducible refine gate_callee (f := 59) rfl ?_); refine goesL_ (some 192) rfl rfl Try.func59 (by kernel_rfl) rfl #[.int .i64 t227] rfl (by (try simp only [List.map_toArray, List.map_cons, List.map_nil]); first | done | rfl | (simp only [List.length_drop, List.length_take]; rfl)) ?_; (with_reducible refine (spec_HamWeight.calls kj12 t227 t236 t237 _ A68.out).mono ?_); rintro e w' ⟨rfl, ⟨nd, rfl⟩⟩; refine ⟨_, rfl, ?_⟩))
           go_ret
           exact ⟨by first | rfl | (simp [errW_none, errW_some] <;> rfl) | (simp [*, errW_none, errW_some] <;> rfl), zH HB.out⟩
          ·rw [if_neg c72] at H
           have c72b0 : (t235 == t237) = false := by simpa using c72
           (try (have c72b1 : decide (t235 = t237) = false := by simpa using c72))
           (try (have c72b2 : (t235 == t237) = false := by simpa using c72))
           (try (have c72b3 : ¬ (t235 = t237) := by simpa using c72))
           clear c72
           obtain rfl := Option.some.inj H
           go_wp2_with (first | ((with_reducible refine gate_callee (f := 57) rfl ?_); refine goesL_ (some 172) rfl rfl Try.func57 (by kernel_rfl) rfl #[.slice A1 l1.length c1] rfl (by (try simp only [List.map_toArray, List.map_cons, List.map_nil]); first | done | rfl | (simp only [List.length_drop, List.length_take]; rfl)) ?_; (with_reducible refine (spec_DrawHamDecode.calls kj12 _ _ l1 t227 _ ?side1 ?side2 A64.out).mono ?_); (case side1 => exact cK HR1.out HB.out); (case side2 => exact HC1.out); rintro e w76 ⟨rfl, hb⟩; refine ⟨_, rfl, ?_⟩; replace HB := aM (zT (zH HB.out) hb); (try clear hb)) | ((with_reducible refine gate_callee (f := 41) rfl ?_); refine goesL_ (some 175) rfl rfl Try.func41 (by kernel_rfl) rfl #[.int .i64 t227] rfl (by (try simp only [List.map_toArray, List.map_cons, List.map_nil]); first | done | rfl | (simp only [List.length_drop, List.length_take]; rfl)) ?_; (with_reducible refine (impl_HamDecode.calls kj12 t227 t228 t229 t230 _ A65.out).mono ?_); rintro e w77 ⟨rfl, hb⟩; refine ⟨_, rfl, ?_⟩; replace HB := aM (zT (zH HB.out) hb); (try clear hb)) | ((with_reducible refine gate_callee (f := 40) rfl ?_); refine goesL_ (some 181) rfl rfl Try.func40 (by kernel_rfl) rfl #[.int .i64 t227] rfl (by (try simp only [List.map_toArray, List.map_cons, List.map_nil]); first | done | rfl | (simp only [List.length_drop, List.length_take]; rfl)) ?_; (with_reducible refine (spec_HamDecode.calls kj12 t227 t231 t232 t233 _ A66.out).mono ?_); rintro e w78 ⟨rfl, hb⟩; refine ⟨_, rfl, ?_⟩; replace HB := aM (zT (zH HB.out) hb); (try clear hb)) | ((with_reducible refine gate_callee (f := 58) rfl ?_); refine goesL_ (some 187) rfl rfl Try.func58 (by kernel_rfl) rfl #[.int .i64 t227] rfl (by (try simp only [List.map_toArray, List.map_cons, List.map_nil]); first | done | rfl | (simp only [List.length_drop, List.length_take]; rfl)) ?_; (with_reducible refine (impl_HamWeight.calls t227 t234 t235 _ A67.out).mono ?_); rintro e w' ⟨rfl, ⟨nd, rfl⟩⟩; refine ⟨_, rfl, ?_⟩) | ((with_reducible refine gate_callee (f := 59) rfl ?_); refine goesL_ (some 192) rfl rfl Try.func59 (by kernel_rfl) rfl #[.int .i64 t227] rfl (by (try simp only [List.map_toArray, List.map_cons, List.map_nil]); first | done | rfl | (simp only [List.length_drop, List.length_take]; rfl)) ?_; (with_reducible refine (spec_HamWeight.calls kj12 t227 t236 t237 _ A68.out).mono ?_); rintro e w' ⟨rfl, ⟨nd, rfl⟩⟩; refine ⟨_, rfl, ?_⟩))
           go_ret
           exact ⟨by first | rfl | (simp [errW_none, errW_some] <;> rfl) | (simp [*, errW_none, errW_some] <;> rfl), zH HB.out⟩
         ·rw [if_neg c71] at H
          have c71b0 : (t229 == t232) = false := beq_eq_false_iff_ne.mpr c71
          have c71b1 : (t229 != t232) = true := bne_iff_ne.mpr c71
          obtain rfl := Option.some.inj H
          go_wp2_with (first | ((with_reducible refine gate_callee (f := 57) rfl ?_); refine goesL_ (some 172) rfl rfl Try.func57 (by kernel_rfl) rfl #[.slice A1 l1.length c1] rfl (by (try simp only [List.map_toArray, List.map_cons, List.map_nil]); first | done | rfl | (simp only [List.length_drop, List.length_take]; rfl)) ?_; (with_reducible refine (spec_DrawHamDecode.calls kj12 _ _ l1 t227 _ ?side1 ?side2 A64.out).mono ?_); (case side1 => exact cK HR1.out HB.out); (case side2 => exact HC1.out); rintro e w79 ⟨rfl, hb⟩; refine ⟨_, rfl, ?_⟩; replace HB := aM (zT (zH HB.out) hb); (try clear hb)) | ((with_reducible refine gate_callee (f := 41) rfl ?_); refine goesL_ (some 175) rfl rfl Try.func41 (by kernel_rfl) rfl #[.int .i64 t227] rfl (by (try simp only [List.map_toArray, List.map_cons, List.map_nil]); first | done | rfl | (simp only [List.length_drop, List.length_take]; rfl)) ?_; (with_reducible refine (impl_HamDecode.calls kj12 t227 t228 t229 t230 _ A65.out).mono ?_); rintro e w80 ⟨rfl, hb⟩; refine ⟨_, rfl, ?_⟩; replace HB := aM (zT (zH HB.out) hb); (try clear hb)) | ((with_reducible refine gate_callee (f := 40) rfl ?_); refine goesL_ (some 181) rfl rfl Try.func40 (by kernel_rfl) rfl #[.int .i64 t227] rfl (by (try simp only [List.map_toArray, List.map_cons, List.map_nil]); first | done | rfl | (simp only [List.length_drop, List.length_take]; rfl)) ?_; (with_reducible refine (spec_HamDecode.calls kj12 t227 t231 t232 t233 _ A66.out).mono ?_); rintro e w81 ⟨rfl, hb⟩; refine ⟨_, rfl, ?_⟩; replace HB := aM (zT (zH HB.out) hb); (try clear hb)) | ((with_reducible refine gate_callee (f := 58) rfl ?_); refine goesL_ (some 187) rfl rfl Try.func58 (by kernel_rfl) rfl #[.int .i64 t227] rfl (by (try simp only [List.map_toArray, List.map_cons, List.map_nil]); first | done | rfl | (simp only [List.length_drop, List.length_take]; rfl)) ?_; (with_reducible refine (impl_HamWeight.calls t227 t234 t235 _ A67.out).mono ?_); rintro e w' ⟨rfl, ⟨nd, rfl⟩⟩; refine ⟨_, rfl, ?_⟩) | ((with_reducible refine gate_callee (f := 59) rfl ?_); refine goesL_ (some 192) rfl rfl Try.func59 (by kernel_rfl) rfl #[.int .i64 t227] rfl (by (try simp only [List.map_toArray, List.map_cons, List.map_nil]); first | done | rfl | (simp only [List.length_drop, List.length_take]; rfl)) ?_; (with_reducible refine (spec_HamWeight.calls kj12 t227 t236 t237 _ A68.out).mono ?_); rintro e w' ⟨rfl, ⟨nd, rfl⟩⟩; refine ⟨_, rfl, ?_⟩))
          go_ret
          exact ⟨by first | rfl | (simp [errW_none, errW_some] <;> rfl) | (simp [*, errW_none, errW_some] <;> rfl), zH HB.out⟩
        ·rw [if_neg c70] at H
         have c70b0 : (t228 == t231) = false := beq_eq_false_iff_ne.mpr c70
         have c70b1 : (t228 != t231) = true := bne_iff_ne.mpr c70
         obtain rfl := Option.some.inj H
         go_wp2_with (first | ((with_reducible refine gate_callee (f := 57) rfl ?_); refine goesL_ (some 172) rfl rfl Try.func57 (by kernel_rfl) rfl #[.slice A1 l1.length c1] rfl (by (try simp only [List.map_toArray, List.map_cons, List.map_nil]); first | done | rfl | (simp only [List.length_drop, List.length_take]; rfl)) ?_; (with_reducible refine (spec_DrawHamDecode.calls kj12 _ _ l1 t227 _ ?side1 ?side2 A64.out).mono ?_); (case side1 => exact cK HR1.out HB.out); (case side2 => exact HC1.out); rintro e w82 ⟨rfl, hb⟩; refine ⟨_, rfl, ?_⟩; replace HB := aM (zT (zH HB.out) hb); (try clear hb)) | ((with_reducible refine gate_callee (f := 41) rfl ?_); refine goesL_ (some 175) rfl rfl Try.func41 (by kernel_rfl) rfl #[.int .i64 t227] rfl (by (try simp only [List.map_toArray, List.map_cons, List.map_nil]); first | done | rfl | (simp only [List.length_drop, List.length_take]; rfl)) ?_; (with_reducible refine (impl_HamDecode.calls kj12 t227 t228 t229 t230 _ A65.out).mono ?_); rintro e w83 ⟨rfl, hb⟩; refine ⟨_, rfl, ?_⟩; replace HB := aM (zT (zH HB.out) hb); (try clear hb)) | ((with_reducible refine gate_callee (f := 40) rfl ?_); refine goesL_ (some 181) rfl rfl Try.func40 (by kernel_rfl) rfl #[.int .i64 t227] rfl (by (try simp only [List.map_toArray, List.map_cons, List.map_nil]); first | done | rfl | (simp only [List.length_drop, List.length_take]; rfl)) ?_; (with_reducible refine (spec_HamDecode.calls kj12 t227 t231 t232 t233 _ A66.out).mono ?_); rintro e w84 ⟨rfl, hb⟩; refine ⟨_, rfl, ?_⟩; replace HB := aM (zT (zH HB.out) hb); (try clear hb)) | ((with_reducible refine gate_callee (f := 58) rfl ?_); refine goesL_ (some 187) rfl rfl Try.func58 (by kernel_rfl) rfl #[.int .i64 t227] rfl (by (try simp only [List.map_toArray, List.map_cons, List.map_nil]); first | done | rfl | (simp only [List.length_drop, List.length_take]; rfl)) ?_; (with_reducible refine (impl_HamWeight.calls t227 t234 t235 _ A67.out).mono ?_); rintro e w' ⟨rfl, ⟨nd, rfl⟩⟩; refine ⟨_, rfl, ?_⟩) | ((with_reducible refine gate_callee (f := 59) rfl ?_); refine goesL_ (some 192) rfl rfl Try.func59 (by kernel_rfl) rfl #[.int .i64 t227] rfl (by (try simp only [List.map_toArray, List.map_cons, List.map_nil]); first | done | rfl | (simp only [List.length_drop, List.length_take]; rfl)) ?_; (with_reducible refine (spec_HamWeight.calls kj12 t227 t236 t237 _ A68.out).mono ?_); rintro e w' ⟨rfl, ⟨nd, rfl⟩⟩; refine ⟨_, rfl, ?_⟩))
         go_ret
         exact ⟨by first | rfl | (simp [errW_none, errW_some] <;> rfl) | (simp [*, errW_none, errW_some] <;> rfl), zH HB.out⟩
       ·rw [if_neg c69] at H
        have c69b0 : (t230 == t233) = false := by simpa using c69
        (try (have c69b1 : decide (t230 = t233) = false := by simpa using c69))
        (try (have c69b2 : (t230 == t233) = false := by simpa using c69))
        (try (have c69b3 : ¬ (t230 = t233) := by simpa using c69))
        clear c69
        obtain rfl := Option.some.inj H
        go_wp2_with (first | ((with_reducible refine gate_callee (f := 57) rfl ?_); refine goesL_ (some 172) rfl rfl Try.func57 (by kernel_rfl) rfl #[.slice A1 l1.length c1] rfl (by (try simp only [List.map_toArray, List.map_cons, List.map_nil]); first | done | rfl | (simp only [List.length_drop, List.length_take]; rfl)) ?_; (with_reducible refine (spec_DrawHamDecode.calls kj12 _ _ l1 t227 _ ?side1 ?side2 A64.out).mono ?_); (case side1 => exact cK HR1.out HB.out); (case side2 => exact HC1.out); rintro e w85 ⟨rfl, hb⟩; refine ⟨_, rfl, ?_⟩; replace HB := aM (zT (zH HB.out) hb); (try clear hb)) | ((with_reducible refine gate_callee (f := 41) rfl ?_); refine goesL_ (some 175) rfl rfl Try.func41 (by kernel_rfl) rfl #[.int .i64 t227] rfl (by (try simp only [List.map_toArray, List.map_cons, List.map_nil]); first | done | rfl | (simp only [List.length_drop, List.length_take]; rfl)) ?_; (with_reducible refine (impl_HamDecode.calls kj12 t227 t228 t229 t230 _ A65.out).mono ?_); rintro e w86 ⟨rfl, hb⟩; refine ⟨_, rfl, ?_⟩; replace HB := aM (zT (zH HB.out) hb); (try clear hb)) | ((with_reducible refine gate_callee (f := 40) rfl ?_); refine goesL_ (some 181) rfl rfl Try.func40 (by kernel_rfl) rfl #[.int .i64 t227] rfl (by (try simp only [List.map_toArray, List.map_cons, List.map_nil]); first | done | rfl | (simp only [List.length_drop, List.length_take]; rfl)) ?_; (with_reducible refine (spec_HamDecode.calls kj12 t227 t231 t232 t233 _ A66.out).mono ?_); rintro e w87 ⟨rfl, hb⟩; refine ⟨_, rfl, ?_⟩; replace HB := aM (zT (zH HB.out) hb); (try clear hb)) | ((with_reducible refine gate_callee (f := 58) rfl ?_); refine goesL_ (some 187) rfl rfl Try.func58 (by kernel_rfl) rfl #[.int .i64 t227] rfl (by (try simp only [List.map_toArray, List.map_cons, List.map_nil]); first | done | rfl | (simp only [List.length_drop, List.length_take]; rfl)) ?_; (with_reducible refine (impl_HamWeight.calls t227 t234 t235 _ A67.out).mono ?_); rintro e w' ⟨rfl, ⟨nd, rfl⟩⟩; refine ⟨_, rfl, ?_⟩) | ((with_reducible refine gate_callee (f := 59) rfl ?_); refine goesL_ (some 192) rfl rfl Try.func59 (by kernel_rfl) rfl #[.int .i64 t227] rfl (by (try simp only [List.map_toArray, List.map_cons, List.map_nil]); first | done | rfl | (simp only [List.length_drop, List.length_take]; rfl)) ?_; (with_reducible refine (spec_HamWeight.calls kj12 t227 t236 t237 _ A68.out).mono ?_); rintro e w' ⟨rfl, ⟨nd, rfl⟩⟩; refine ⟨_, rfl, ?_⟩))
        go_ret
        exact ⟨by first | rfl | (simp [errW_none, errW_some] <;> rfl) | (simp [*, errW_none, errW_some] <;> rfl), zH HB.out⟩

/-- THE ONE PURE STATEMENT of laws_FnHamming: yours. -/
def laws_FnHamming.Pure : Prop := ∀ (l0 : List Int) (l1 : List Int), l0.length ≤ maxLen → l0.length * 1 ≤ 140737488351232 → (∀ x ∈ l0, (Lit.int .u8 x).wf = true) → l1.length ≤ maxLen → l1.length * 1 ≤ 140737488351232 → (∀ x ∈ l1, (Lit.int .u8 x).wf = true) → ∃ k, laws_FnHamming.f k l0 l1 = some true
theorem laws_FnHamming.walk (P : laws_FnHamming.Pure) (a0 : Option Addr) (len0 cap0 : Nat) (z0 : List Int) (a1 : Option Addr) (len1 cap1 : Nat) (z1 : List Int) (w : World) (w0 : (a0 = none ∧ len0 = 0 ∧ cap0 = 0 ∧ z0 = []) ∨ ∃ x, a0 = some x ∧ len0 ≤ cap0 ∧ cap0 ≤ maxLen ∧ z0.length = cap0 ∧ (∀ i, i < z0.length → w.cell? (x.add i) = some (.int .u8 (z0.getD i 0))) ∧ ∀ n ∈ z0, (Lit.int .u8 n).wf = true) (y0 : len0 * 1 ≤ 140737488351232) (w1 : (a1 = none ∧ len1 = 0 ∧ cap1 = 0 ∧ z1 = []) ∨ ∃ x, a1 = some x ∧ len1 ≤ cap1 ∧ cap1 ≤ maxLen ∧ z1.length = cap1 ∧ (∀ i, i < z1.length → w.cell? (x.add i) = some (.int .u8 (z1.getD i 0))) ∧ ∀ n ∈ z1, (Lit.int .u8 n).wf = true) (y1 : len1 * 1 ≤ 140737488351232) :
  Calls Try.prog 13 #[.slice a0 len0 cap0, .slice a1 len1 cap1] w fun e w' => e = .returned (.bool true) ∧ Below w.heap.size w w' := by
 obtain ⟨l0, rfl, hr0, hm0, hw0, hc0⟩ := ReadsInt.ofRowC w0
 obtain ⟨l1, rfl, hr1, hm1, hw1, hc1⟩ := ReadsInt.ofRowC w1
 obtain ⟨k, h⟩ := P l0 l1 hm0 y0 hw0 hm1 y1 hw1
 refine (laws_FnHamming.calls k _ _ l0 _ _ l1 true w (Kd.C_of_reads (d := (0 : Int)) (h1 := fun _ => rfl) hr0) hc0 (Kd.C_of_reads (d := (0 : Int)) (h1 := fun _ => rfl) hr1) hc1 h).mono ?_
 rintro e w' ⟨rfl, hd⟩
 exact ⟨rfl, hd⟩

end Go.Proofs.Ytjibcpfgnnmfjaa.PFnHamming
