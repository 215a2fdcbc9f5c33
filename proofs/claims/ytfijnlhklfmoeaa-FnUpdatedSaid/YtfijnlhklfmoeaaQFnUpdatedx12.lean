/- The walks of FnUpdated: Go's calls come to what the Lean functions beside them say; no condition. -/
import Derived.Test.YtfijnlhklfmoeaaQFnUpdatedx0
import Derived.Test.YtfijnlhklfmoeaaQFnUpdatedx2
import Derived.Test.YtfijnlhklfmoeaaQFnUpdatedx4
import Derived.Test.YtfijnlhklfmoeaaQFnUpdatedx5
import Derived.Test.YtfijnlhklfmoeaaQFnUpdatedx7
import Derived.Test.YtfijnlhklfmoeaaQFnUpdatedx8
import Derived.Test.YtfijnlhklfmoeaaQFnUpdatedx9
import Derived.Test.YtfijnlhklfmoeaaQFnUpdatedx11
namespace Go.Proofs.Ytfijnlhklfmoeaa.PFnUpdated
open Go.RowKit Go.Proofs.YtfijnlhklfmoeaaW.PrintWords Go.Proofs.YtfijnlhklfmoeaaW.PrintLast Go.Proofs.YtfijnlhklfmoeaaW.PrintMore
attribute [local go_sem] max2_int min2_int max_two min_two max_three min_three max_four min_four   -- for this text's walks alone
set_option linter.unusedVariables false
set_option linter.unusedSimpArgs false
set_option maxRecDepth 100000

/-! ### laws_FnUpdated: function 10 -/
mutual
def laws_FnUpdated.j0 : Nat → List Int → Int → ByteArray → Bool → Bool → Bool → List ByteArray → ByteArray → ByteArray → Option (Bool)
 | 0, _, _, _, _, _, _, _, _, _ => none
 | k + 1, x1, x6, x7, x9, x12, x83, x431000, x431001, x431002 => if x83 = true then (some false) else (if x9 = true then ((impl_CheckStripe.f k x431000 x431001 x431002).bind fun bt443 => ((impl_MakeStripe.f k x431000).bind fun bt445 => (if bt443.2 = true then (if bt445.2.2.2 = true then (if (bt443.1 != x12) = true then (some false) else (if x12 = true then ((laws_sameStripes.f k bt445.1 bt445.2.1 bt445.2.2.1 x431000 x431001 x431002).bind fun t452 => (if t452 = true then (if 0 ≤ x6 then (if x6 < (x431000.length : Int) then (if (rdOf ByteArray.empty x431000 x6).toList = x7.toList then (laws_FnUpdated.j1 k x1) else (some false)) else (none)) else (none)) else (some false))) else (if 0 ≤ x6 then (if x6 < (x431000.length : Int) then (if (rdOf ByteArray.empty x431000 x6).toList = x7.toList then (laws_FnUpdated.j1 k x1) else (some false)) else (none)) else (none)))) else (some false)) else (some false)))) else (laws_FnUpdated.j1 k x1))
def laws_FnUpdated.j1 : Nat → List Int → Option (Bool)
 | 0, _ => none
 | k + 1, x1 => (spec_DrawFindWrong.f k x1).bind fun bt455 => ((impl_FindWrong.f k bt455.1 bt455.2.1 bt455.2.2).bind fun bt461 => ((spec_FindWrong.f k bt455.1 bt455.2.1 bt455.2.2).bind fun bt463 => (if (bt461.2 != bt463.2) = true then (laws_FnUpdated.j2 k bt461.1 bt461.2 true bt455.1 bt455.2.1 bt455.2.2) else (laws_FnUpdated.j2 k bt461.1 bt461.2 (bt461.1 != bt463.1) bt455.1 bt455.2.1 bt455.2.2))))
def laws_FnUpdated.j2 : Nat → Int → Bool → Bool → List ByteArray → ByteArray → ByteArray → Option (Bool)
 | 0, _, _, _, _, _, _ => none
 | k + 1, x21, x22, x144, x461000, x461001, x461002 => if x144 = true then (some false) else (if x22 = true then ((impl_RecoverOne.f k x461000 x461001 x461002 x21).bind fun bt465 => ((impl_CheckStripe.f k bt465.1 bt465.2.1 bt465.2.2.1).bind fun bt472 => (if bt465.2.2.2 = true then (if bt472.2 = true then (some bt472.1) else (some false)) else (some false)))) else (some (x21 == 0)))
end
def laws_FnUpdated.f (k : Nat) (l0 : List Int) (l1 : List Int) : Option (Bool) := if (wrap64 ((l0.length : Int) + (l1.length : Int))) > 1048576 then (some true) else ((spec_DrawUpdateStripe.f k l0).bind fun bt416 => ((impl_UpdateStripe.f k bt416.1 bt416.2.1 bt416.2.2.1 bt416.2.2.2.1 bt416.2.2.2.2).bind fun bt424 => ((spec_UpdateStripe.f k bt416.1 bt416.2.1 bt416.2.2.1 bt416.2.2.2.1 bt416.2.2.2.2).bind fun bt431 => ((impl_CheckStripe.f k bt416.1 bt416.2.1 bt416.2.2.1).bind fun bt438 => ((spec_CheckStripe.f k bt416.1 bt416.2.1 bt416.2.2.1).bind fun bt440 => (if (bt424.2.2.2 != bt431.2.2.2) = true then (laws_FnUpdated.j0 k l1 bt416.2.2.2.1 bt416.2.2.2.2 bt424.2.2.2 bt438.1 true bt424.1 bt424.2.1 bt424.2.2.1) else ((laws_sameStripes.f k bt424.1 bt424.2.1 bt424.2.2.1 bt431.1 bt431.2.1 bt431.2.2.1).bind fun t442 => (if t442 = true then (if (bt438.1 != bt440.1) = true then (laws_FnUpdated.j0 k l1 bt416.2.2.2.1 bt416.2.2.2.2 bt424.2.2.2 bt438.1 true bt424.1 bt424.2.1 bt424.2.2.1) else (laws_FnUpdated.j0 k l1 bt416.2.2.2.1 bt416.2.2.2.2 bt424.2.2.2 bt438.1 (bt438.2 != bt440.2) bt424.1 bt424.2.1 bt424.2.2.1)) else (laws_FnUpdated.j0 k l1 bt416.2.2.2.1 bt416.2.2.2.2 bt424.2.2.2 bt438.1 true bt424.1 bt424.2.1 bt424.2.2.1)))))))))
theorem laws_FnUpdated.mono_l : ∀ k, (∀ y0 y1 y2 y3 y4 y5 y6 y7 y8, LeO (laws_FnUpdated.j0 k y0 y1 y2 y3 y4 y5 y6 y7 y8) (laws_FnUpdated.j0 (k + 1) y0 y1 y2 y3 y4 y5 y6 y7 y8)) ∧ (∀ y0, LeO (laws_FnUpdated.j1 k y0) (laws_FnUpdated.j1 (k + 1) y0)) ∧ (∀ y0 y1 y2 y3 y4 y5, LeO (laws_FnUpdated.j2 k y0 y1 y2 y3 y4 y5) (laws_FnUpdated.j2 (k + 1) y0 y1 y2 y3 y4 y5))
 | 0 => ⟨fun _ _ _ _ _ _ _ _ _ r h => by simp [laws_FnUpdated.j0] at h, fun _ r h => by simp [laws_FnUpdated.j1] at h, fun _ _ _ _ _ _ r h => by simp [laws_FnUpdated.j2] at h⟩
 | k + 1 => by
  obtain ⟨ih0, ih1, ih2⟩ := laws_FnUpdated.mono_l k
  refine ⟨?_, ?_, ?_⟩
  ·intro y0 y1 y2 y3 y4 y5 y6 y7 y8
   unfold laws_FnUpdated.j0
   repeat' first
   | (with_reducible exact ih0 _ _ _ _ _ _ _ _ _)
   | (with_reducible exact ih1 _)
   | (with_reducible exact ih2 _ _ _ _ _ _)
   | (with_reducible exact impl_CheckStripe.mono _ _ _ _)
   | (with_reducible exact impl_FindWrong.mono _ _ _ _)
   | (with_reducible exact impl_MakeStripe.mono _ _)
   | (with_reducible exact impl_RecoverOne.mono _ _ _ _ _)
   | (with_reducible exact impl_UpdateStripe.mono _ _ _ _ _ _)
   | (with_reducible exact laws_sameStripes.mono _ _ _ _ _ _ _)
   | (with_reducible exact spec_CheckStripe.mono _ _ _ _)
   | (with_reducible exact spec_DrawFindWrong.mono _ _)
   | (with_reducible exact spec_DrawUpdateStripe.mono _ _)
   | (with_reducible exact spec_FindWrong.mono _ _ _ _)
   | (with_reducible exact spec_UpdateStripe.mono _ _ _ _ _ _)
   | (with_reducible exact LeO.refl _)
   | (with_reducible exact LeO.none _)
   | (with_reducible refine LeO.ite ?_ ?_)
   | (with_reducible refine LeO.bind ?_ (fun _ => ?_))
   | exact ih0 _ _ _ _ _ _ _ _ _
   | exact ih1 _
   | exact ih2 _ _ _ _ _ _
   | exact impl_CheckStripe.mono _ _ _ _
   | exact impl_FindWrong.mono _ _ _ _
   | exact impl_MakeStripe.mono _ _
   | exact impl_RecoverOne.mono _ _ _ _ _
   | exact impl_UpdateStripe.mono _ _ _ _ _ _
   | exact laws_sameStripes.mono _ _ _ _ _ _ _
   | exact spec_CheckStripe.mono _ _ _ _
   | exact spec_DrawFindWrong.mono _ _
   | exact spec_DrawUpdateStripe.mono _ _
   | exact spec_FindWrong.mono _ _ _ _
   | exact spec_UpdateStripe.mono _ _ _ _ _ _
   | exact LeO.none _
   | refine LeO.ite ?_ ?_
   | refine LeO.bind ?_ (fun _ => ?_)
  ·intro y0
   unfold laws_FnUpdated.j1
   repeat' first
   | (with_reducible exact ih0 _ _ _ _ _ _ _ _ _)
   | (with_reducible exact ih1 _)
   | (with_reducible exact ih2 _ _ _ _ _ _)
   | (with_reducible exact impl_CheckStripe.mono _ _ _ _)
   | (with_reducible exact impl_FindWrong.mono _ _ _ _)
   | (with_reducible exact impl_MakeStripe.mono _ _)
   | (with_reducible exact impl_RecoverOne.mono _ _ _ _ _)
   | (with_reducible exact impl_UpdateStripe.mono _ _ _ _ _ _)
   | (with_reducible exact laws_sameStripes.mono _ _ _ _ _ _ _)
   | (with_reducible exact spec_CheckStripe.mono _ _ _ _)
   | (with_reducible exact spec_DrawFindWrong.mono _ _)
   | (with_reducible exact spec_DrawUpdateStripe.mono _ _)
   | (with_reducible exact spec_FindWrong.mono _ _ _ _)
   | (with_reducible exact spec_UpdateStripe.mono _ _ _ _ _ _)
   | (with_reducible exact LeO.refl _)
   | (with_reducible exact LeO.none _)
   | (with_reducible refine LeO.ite ?_ ?_)
   | (with_reducible refine LeO.bind ?_ (fun _ => ?_))
   | exact ih0 _ _ _ _ _ _ _ _ _
   | exact ih1 _
   | exact ih2 _ _ _ _ _ _
   | exact impl_CheckStripe.mono _ _ _ _
   | exact impl_FindWrong.mono _ _ _ _
   | exact impl_MakeStripe.mono _ _
   | exact impl_RecoverOne.mono _ _ _ _ _
   | exact impl_UpdateStripe.mono _ _ _ _ _ _
   | exact laws_sameStripes.mono _ _ _ _ _ _ _
   | exact spec_CheckStripe.mono _ _ _ _
   | exact spec_DrawFindWrong.mono _ _
   | exact spec_DrawUpdateStripe.mono _ _
   | exact spec_FindWrong.mono _ _ _ _
   | exact spec_UpdateStripe.mono _ _ _ _ _ _
   | exact LeO.none _
   | refine LeO.ite ?_ ?_
   | refine LeO.bind ?_ (fun _ => ?_)
  ·intro y0 y1 y2 y3 y4 y5
   unfold laws_FnUpdated.j2
   repeat' first
   | (with_reducible exact ih0 _ _ _ _ _ _ _ _ _)
   | (with_reducible exact ih1 _)
   | (with_reducible exact ih2 _ _ _ _ _ _)
   | (with_reducible exact impl_CheckStripe.mono _ _ _ _)
   | (with_reducible exact impl_FindWrong.mono _ _ _ _)
   | (with_reducible exact impl_MakeStripe.mono _ _)
   | (with_reducible exact impl_RecoverOne.mono _ _ _ _ _)
   | (with_reducible exact impl_UpdateStripe.mono _ _ _ _ _ _)
   | (with_reducible exact laws_sameStripes.mono _ _ _ _ _ _ _)
   | (with_reducible exact spec_CheckStripe.mono _ _ _ _)
   | (with_reducible exact spec_DrawFindWrong.mono _ _)
   | (with_reducible exact spec_DrawUpdateStripe.mono _ _)
   | (with_reducible exact spec_FindWrong.mono _ _ _ _)
   | (with_reducible exact spec_UpdateStripe.mono _ _ _ _ _ _)
   | (with_reducible exact LeO.refl _)
   | (with_reducible exact LeO.none _)
   | (with_reducible refine LeO.ite ?_ ?_)
   | (with_reducible refine LeO.bind ?_ (fun _ => ?_))
   | exact ih0 _ _ _ _ _ _ _ _ _
   | exact ih1 _
   | exact ih2 _ _ _ _ _ _
   | exact impl_CheckStripe.mono _ _ _ _
   | exact impl_FindWrong.mono _ _ _ _
   | exact impl_MakeStripe.mono _ _
   | exact impl_RecoverOne.mono _ _ _ _ _
   | exact impl_UpdateStripe.mono _ _ _ _ _ _
   | exact laws_sameStripes.mono _ _ _ _ _ _ _
   | exact spec_CheckStripe.mono _ _ _ _
   | exact spec_DrawFindWrong.mono _ _
   | exact spec_DrawUpdateStripe.mono _ _
   | exact spec_FindWrong.mono _ _ _ _
   | exact spec_UpdateStripe.mono _ _ _ _ _ _
   | exact LeO.none _
   | refine LeO.ite ?_ ?_
   | refine LeO.bind ?_ (fun _ => ?_)
theorem laws_FnUpdated.mono : ∀ a0 a1 k, LeO (laws_FnUpdated.f k a0 a1) (laws_FnUpdated.f (k + 1) a0 a1) := by
 intro a0 a1 k
 obtain ⟨ih0, ih1, ih2⟩ := laws_FnUpdated.mono_l k
 unfold laws_FnUpdated.f
 repeat' first
   | (with_reducible exact ih0 _ _ _ _ _ _ _ _ _)
   | (with_reducible exact ih1 _)
   | (with_reducible exact ih2 _ _ _ _ _ _)
   | (with_reducible exact impl_CheckStripe.mono _ _ _ _)
   | (with_reducible exact impl_FindWrong.mono _ _ _ _)
   | (with_reducible exact impl_MakeStripe.mono _ _)
   | (with_reducible exact impl_RecoverOne.mono _ _ _ _ _)
   | (with_reducible exact impl_UpdateStripe.mono _ _ _ _ _ _)
   | (with_reducible exact laws_sameStripes.mono _ _ _ _ _ _ _)
   | (with_reducible exact spec_CheckStripe.mono _ _ _ _)
   | (with_reducible exact spec_DrawFindWrong.mono _ _)
   | (with_reducible exact spec_DrawUpdateStripe.mono _ _)
   | (with_reducible exact spec_FindWrong.mono _ _ _ _)
   | (with_reducible exact spec_UpdateStripe.mono _ _ _ _ _ _)
   | (with_reducible exact LeO.refl _)
   | (with_reducible exact LeO.none _)
   | (with_reducible refine LeO.ite ?_ ?_)
   | (with_reducible refine LeO.bind ?_ (fun _ => ?_))
   | exact ih0 _ _ _ _ _ _ _ _ _
   | exact ih1 _
   | exact ih2 _ _ _ _ _ _
   | exact impl_CheckStripe.mono _ _ _ _
   | exact impl_FindWrong.mono _ _ _ _
   | exact impl_MakeStripe.mono _ _
   | exact impl_RecoverOne.mono _ _ _ _ _
   | exact impl_UpdateStripe.mono _ _ _ _ _ _
   | exact laws_sameStripes.mono _ _ _ _ _ _ _
   | exact spec_CheckStripe.mono _ _ _ _
   | exact spec_DrawFindWrong.mono _ _
   | exact spec_DrawUpdateStripe.mono _ _
   | exact spec_FindWrong.mono _ _ _ _
   | exact spec_UpdateStripe.mono _ _ _ _ _ _
   | exact LeO.none _
   | refine LeO.ite ?_ ?_
   | refine LeO.bind ?_ (fun _ => ?_)
set_option maxHeartbeats 8000000 in
set_option maxRecDepth 100000 in
theorem laws_FnUpdated.calls (k : Nat) (A0 : Option Addr) (c0 : Nat) (l0 : List Int) (A1 : Option Addr) (c1 : Nat) (l1 : List Int) (r : Bool) (w : World) (hr0 : Kd.C (Kd.int .u8) w A0 l0.length l0) (hc0 : l0.length ≤ c0) (hr1 : Kd.C (Kd.int .u8) w A1 l1.length l1) (hc1 : l1.length ≤ c1) (h : laws_FnUpdated.f k l0 l1 = some r) (hr_ : r = true := by rfl) :
  Calls Try.prog 10 #[.slice A0 l0.length c0, .slice A1 l1.length c1] w fun e w' => e = .returned (.bool r) ∧ Below w.heap.size w w' := by
 have HR_ := aM hr_
 clear hr_
 have hu27 := Try.underlying27
 have HR0 := aM hr0
 have HC0 := aM hc0
 clear hr0 hc0
 have HR1 := aM hr1
 have HC1 := aM hc1
 clear hr1 hc1
 have HB := aM (Below.refl w.heap.size w)
 have H : (if (wrap64 ((l0.length : Int) + (l1.length : Int))) > 1048576 then (some true) else ((spec_DrawUpdateStripe.f k l0).bind fun bt416 => ((impl_UpdateStripe.f k bt416.1 bt416.2.1 bt416.2.2.1 bt416.2.2.2.1 bt416.2.2.2.2).bind fun bt424 => ((spec_UpdateStripe.f k bt416.1 bt416.2.1 bt416.2.2.1 bt416.2.2.2.1 bt416.2.2.2.2).bind fun bt431 => ((impl_CheckStripe.f k bt416.1 bt416.2.1 bt416.2.2.1).bind fun bt438 => ((spec_CheckStripe.f k bt416.1 bt416.2.1 bt416.2.2.1).bind fun bt440 => (if (bt424.2.2.2 != bt431.2.2.2) = true then (laws_FnUpdated.j0 k l1 bt416.2.2.2.1 bt416.2.2.2.2 bt424.2.2.2 bt438.1 true bt424.1 bt424.2.1 bt424.2.2.1) else ((laws_sameStripes.f k bt424.1 bt424.2.1 bt424.2.2.1 bt431.1 bt431.2.1 bt431.2.2.1).bind fun t442 => (if t442 = true then (if (bt438.1 != bt440.1) = true then (laws_FnUpdated.j0 k l1 bt416.2.2.2.1 bt416.2.2.2.2 bt424.2.2.2 bt438.1 true bt424.1 bt424.2.1 bt424.2.2.1) else (laws_FnUpdated.j0 k l1 bt416.2.2.2.1 bt416.2.2.2.2 bt424.2.2.2 bt438.1 (bt438.2 != bt440.2) bt424.1 bt424.2.1 bt424.2.2.1)) else (laws_FnUpdated.j0 k l1 bt416.2.2.2.1 bt416.2.2.2.2 bt424.2.2.2 bt438.1 true bt424.1 bt424.2.1 bt424.2.2.1)))))))))) = some r := h
 clear h
 by_cases c3 : (wrap64 ((l0.length : Int) + (l1.length : Int))) > 1048576
 ·rw [if_pos c3] at H
  have c3b0 : decide (1048576 < (wrap64 ((l0.length : Int) + (l1.length : Int)))) = true := decide_eq_true c3
  clear c3
  obtain rfl := Option.some.inj H
  go_enter Try.func10, Try.ntmps10
  go_wp2
  go_ret
  exact ⟨by first | rfl | (simp [errW_none, errW_some] <;> rfl) | (simp [*, errW_none, errW_some] <;> rfl), zH HB.out⟩
 ·rw [if_neg c3] at H
  have c3b0 : decide (1048576 < (wrap64 ((l0.length : Int) + (l1.length : Int)))) = false := decide_eq_false c3
  clear c3
  replace H := Option.bind_eq_some_iff.mp H
  obtain ⟨⟨t416, t419, t420, t421, t422⟩, A40, H⟩ := H
  replace H : ((impl_UpdateStripe.f k t416 t419 t420 t421 t422).bind fun bt424 => ((spec_UpdateStripe.f k t416 t419 t420 t421 t422).bind fun bt431 => ((impl_CheckStripe.f k t416 t419 t420).bind fun bt438 => ((spec_CheckStripe.f k t416 t419 t420).bind fun bt440 => (if (bt424.2.2.2 != bt431.2.2.2) = true then (laws_FnUpdated.j0 k l1 t421 t422 bt424.2.2.2 bt438.1 true bt424.1 bt424.2.1 bt424.2.2.1) else ((laws_sameStripes.f k bt424.1 bt424.2.1 bt424.2.2.1 bt431.1 bt431.2.1 bt431.2.2.1).bind fun t442 => (if t442 = true then (if (bt438.1 != bt440.1) = true then (laws_FnUpdated.j0 k l1 t421 t422 bt424.2.2.2 bt438.1 true bt424.1 bt424.2.1 bt424.2.2.1) else (laws_FnUpdated.j0 k l1 t421 t422 bt424.2.2.2 bt438.1 (bt438.2 != bt440.2) bt424.1 bt424.2.1 bt424.2.2.1)) else (laws_FnUpdated.j0 k l1 t421 t422 bt424.2.2.2 bt438.1 true bt424.1 bt424.2.1 bt424.2.2.1)))))))) = some r := H
  have A4 := aM A40
  clear A40
  replace H := Option.bind_eq_some_iff.mp H
  obtain ⟨⟨t424, t427, t428, t429⟩, A50, H⟩ := H
  replace H : ((spec_UpdateStripe.f k t416 t419 t420 t421 t422).bind fun bt431 => ((impl_CheckStripe.f k t416 t419 t420).bind fun bt438 => ((spec_CheckStripe.f k t416 t419 t420).bind fun bt440 => (if (t429 != bt431.2.2.2) = true then (laws_FnUpdated.j0 k l1 t421 t422 t429 bt438.1 true t424 t427 t428) else ((laws_sameStripes.f k t424 t427 t428 bt431.1 bt431.2.1 bt431.2.2.1).bind fun t442 => (if t442 = true then (if (bt438.1 != bt440.1) = true then (laws_FnUpdated.j0 k l1 t421 t422 t429 bt438.1 true t424 t427 t428) else (laws_FnUpdated.j0 k l1 t421 t422 t429 bt438.1 (bt438.2 != bt440.2) t424 t427 t428)) else (laws_FnUpdated.j0 k l1 t421 t422 t429 bt438.1 true t424 t427 t428))))))) = some r := H
  have A5 := aM A50
  clear A50
  replace H := Option.bind_eq_some_iff.mp H
  obtain ⟨⟨t431, t434, t435, t436⟩, A60, H⟩ := H
  replace H : ((impl_CheckStripe.f k t416 t419 t420).bind fun bt438 => ((spec_CheckStripe.f k t416 t419 t420).bind fun bt440 => (if (t429 != t436) = true then (laws_FnUpdated.j0 k l1 t421 t422 t429 bt438.1 true t424 t427 t428) else ((laws_sameStripes.f k t424 t427 t428 t431 t434 t435).bind fun t442 => (if t442 = true then (if (bt438.1 != bt440.1) = true then (laws_FnUpdated.j0 k l1 t421 t422 t429 bt438.1 true t424 t427 t428) else (laws_FnUpdated.j0 k l1 t421 t422 t429 bt438.1 (bt438.2 != bt440.2) t424 t427 t428)) else (laws_FnUpdated.j0 k l1 t421 t422 t429 bt438.1 true t424 t427 t428)))))) = some r := H
  have A6 := aM A60
  clear A60
  replace H := Option.bind_eq_some_iff.mp H
  obtain ⟨⟨t438, t439⟩, A70, H⟩ := H
  replace H : ((spec_CheckStripe.f k t416 t419 t420).bind fun bt440 => (if (t429 != t436) = true then (laws_FnUpdated.j0 k l1 t421 t422 t429 t438 true t424 t427 t428) else ((laws_sameStripes.f k t424 t427 t428 t431 t434 t435).bind fun t442 => (if t442 = true then (if (t438 != bt440.1) = true then (laws_FnUpdated.j0 k l1 t421 t422 t429 t438 true t424 t427 t428) else (laws_FnUpdated.j0 k l1 t421 t422 t429 t438 (t439 != bt440.2) t424 t427 t428)) else (laws_FnUpdated.j0 k l1 t421 t422 t429 t438 true t424 t427 t428))))) = some r := H
  have A7 := aM A70
  clear A70
  replace H := Option.bind_eq_some_iff.mp H
  obtain ⟨⟨t440, t441⟩, A80, H⟩ := H
  replace H : (if (t429 != t436) = true then (laws_FnUpdated.j0 k l1 t421 t422 t429 t438 true t424 t427 t428) else ((laws_sameStripes.f k t424 t427 t428 t431 t434 t435).bind fun t442 => (if t442 = true then (if (t438 != t440) = true then (laws_FnUpdated.j0 k l1 t421 t422 t429 t438 true t424 t427 t428) else (laws_FnUpdated.j0 k l1 t421 t422 t429 t438 (t439 != t441) t424 t427 t428)) else (laws_FnUpdated.j0 k l1 t421 t422 t429 t438 true t424 t427 t428)))) = some r := H
  have A8 := aM A80
  clear A80
  have HC9 := aM H
  clear H
  go_enter Try.func10, Try.ntmps10
  go_upto_region 8 with (first | ((with_reducible refine gate_callee (f := 35) rfl ?_); refine goesL_ (some 37) rfl rfl Try.func35 (by kernel_rfl) rfl #[.slice A0 l0.length c0] rfl (by (try simp only [List.map_toArray, List.map_cons, List.map_nil]); first | done | rfl | (simp only [List.length_drop, List.length_take]; rfl)) ?_; (with_reducible refine (spec_DrawUpdateStripe.calls k _ _ l0 t416 t419 t420 t421 t422 _ ?side1 ?side2 A4.out).mono ?_); (case side1 => repeat (first | exact HR0.out | (with_reducible refine cA ?_ _) | (with_reducible refine cN ?_ _) | (with_reducible refine cD ?_))); (case side2 => exact HC0.out); rintro e w10 ⟨v417, rfl, ho0, hb⟩; refine ⟨_, rfl, ?_⟩; have HO418 := aM (xL ho0 (zZ (zH HB.out))); replace HB := aM (zT (zH HB.out) hb); (try clear hb); (try clear ho0)) | ((with_reducible refine gate_dst (N := 5) rfl ?_); refine box_event ?hg (N := 5) ?hd (cs := #[.slice none 0 0, .string (⟨#[]⟩ : ByteArray), .string (⟨#[]⟩ : ByteArray)]) (t := 27) ?hr ?_; (case hd => rfl); (case hg => rfl); (case hr => first | (go_simp; done) | (go_simp; rfl)); intro gb423 hg w11 hbox hb; replace HO418 := xK HO418.out hb; have BK423 := aM (hbox); have GW423 := aM ((by rw [hg]; exact (zZ (zH HB.out)) : w.heap.size ≤ gb423)); have GE423 := aM ((by rw [hg]; exact (zZ (zH HB.out)) : w.heap.size ≤ gb423)); replace HB := aM (zT (zH HB.out) hb); clear hb hbox hg; obtain ⟨Ao12, co12, eo12⟩ := Kd.R_slice HO418.out; subst eo12; have hcz13_0 : w11.cell? ⟨gb423, 0, none⟩ = some (.slice none 0 0) := yc BK423.out 0; have hcz13_1 : w11.cell? ⟨gb423, 1, none⟩ = some (.string (⟨#[]⟩ : ByteArray)) := yc BK423.out 1; have hcz13_2 : w11.cell? ⟨gb423, 2, none⟩ = some (.string (⟨#[]⟩ : ByteArray)) := yc BK423.out 2; have hfz13_0 := yZ BK423.out 0; have hfz13_1 := yZ BK423.out 1; have hfz13_2 := yZ BK423.out 2) | ((with_reducible refine gate_callee (f := 28) rfl ?_); refine goesL_ (some 45) rfl rfl Try.func28 (by kernel_rfl) rfl #[.agg #[.slice Ao12 t416.length co12, .string t419, .string t420], .int .i64 t421, .string t422] rfl (by (try simp only [List.map_toArray, List.map_cons, List.map_nil]); first | done | rfl | (simp only [List.length_drop, List.length_take]; rfl)) ?_; (with_reducible refine (impl_UpdateStripe.calls k _ _ t416 t419 t420 t421 t422 t424 t427 t428 t429 _ ?side1 ?side2 A5.out).mono ?_); (case side1 => exact rC (n := t416.length) (c := co12) ((x3 HO418.out BK423.out (by decide) (.slice Ao12 t416.length co12) (.string t419) (.string t420)))); (case side2 => exact (Kd.R_reads' HO418.out).2.1); rintro e w14 ⟨v425, rfl, ho0, hb⟩; refine ⟨_, rfl, ?_⟩; have HO426 := aM (xL (Kd.R_new' ho0 (Kd.R_lt (xH ((x3 HO418.out BK423.out (by decide) (.slice Ao12 t416.length co12) (.string t419) (.string t420)))))) (zZ (zH HB.out))); replace HO418 := aM (Kd.R_elder' (xH ((x3 HO418.out BK423.out (by decide) (.slice Ao12 t416.length co12) (.string t419) (.string t420)))) (Kd.R_base ho0) hb); replace BK423 := aM (yB (g := gb423) (o := .cells #[.slice Ao12 t416.length co12, .string t419, .string t420] 27 (0, 0)) (by (with_reducible repeat (first | refine yN ?_ _ | refine yD ?_ | refine yA ?_ _)); refine yP (cs := #[.slice Ao12 t416.length co12, .string t419, .string (⟨#[]⟩ : ByteArray)]) ?_ 2 _ rfl; (with_reducible repeat (first | refine yN ?_ _ | refine yD ?_ | refine yA ?_ _)); refine yP (cs := #[.slice Ao12 t416.length co12, .string (⟨#[]⟩ : ByteArray), .string (⟨#[]⟩ : ByteArray)]) ?_ 1 _ rfl; (with_reducible repeat (first | refine yN ?_ _ | refine yD ?_ | refine yA ?_ _)); refine yP (cs := #[.slice none 0 0, .string (⟨#[]⟩ : ByteArray), .string (⟨#[]⟩ : ByteArray)]) ?_ 0 _ rfl; (with_reducible repeat (first | refine yN ?_ _ | refine yD ?_ | refine yA ?_ _)); exact BK423.out) hb); replace HB := aM (zT (zH HB.out) hb); (try clear hb); (try clear ho0)) | ((with_reducible refine gate_dst (N := 8) rfl ?_); refine box_event ?hg (N := 8) ?hd (cs := #[.slice none 0 0, .string (⟨#[]⟩ : ByteArray), .string (⟨#[]⟩ : ByteArray)]) (t := 27) ?hr ?_; (case hd => rfl); (case hg => rfl); (case hr => first | (go_simp; done) | (go_simp; rfl)); intro gb430 hg w15 hbox hb; replace HO418 := xK HO418.out hb; replace HO426 := xK HO426.out hb; have BK430 := aM (hbox); have GW430 := aM ((by rw [hg]; exact (zZ (zH HB.out)) : w.heap.size ≤ gb430)); have GE430 := aM ((by rw [hg]; exact (zZ (zH HB.out)) : w.heap.size ≤ gb430)); replace HB := aM (zT (zH HB.out) hb); have NB423_430 := nL BK423.out hg; have NB430_423 := nR BK423.out hg; replace BK423 := yK BK423.out hb; clear hb hbox hg; obtain ⟨Ao16, co16, eo16⟩ := Kd.R_slice HO426.out; subst eo16; have hnb17 := NB430_423.out; have hnc17 := NB423_430.out; have hcz18_0 : w15.cell? ⟨gb430, 0, none⟩ = some (.slice none 0 0) := yc BK430.out 0; have hcz18_1 : w15.cell? ⟨gb430, 1, none⟩ = some (.string (⟨#[]⟩ : ByteArray)) := yc BK430.out 1; have hcz18_2 : w15.cell? ⟨gb430, 2, none⟩ = some (.string (⟨#[]⟩ : ByteArray)) := yc BK430.out 2; have hfz18_0 := yZ BK430.out 0; have hfz18_1 := yZ BK430.out 1; have hfz18_2 := yZ BK430.out 2; have hcz19_0 : w15.cell? ⟨gb423, 0, none⟩ = some (.slice Ao12 t416.length co12) := yc BK423.out 0; have hcz19_1 : w15.cell? ⟨gb423, 1, none⟩ = some (.string t419) := yc BK423.out 1; have hcz19_2 : w15.cell? ⟨gb423, 2, none⟩ = some (.string t420) := yc BK423.out 2; have hfz19_0 := yZ BK423.out 0; have hfz19_1 := yZ BK423.out 1; have hfz19_2 := yZ BK423.out 2) | ((with_reducible refine gate_callee (f := 27) rfl ?_); refine goesL_ (some 52) rfl rfl Try.func27 (by kernel_rfl) rfl #[.agg #[.slice Ao12 t416.length co12, .string t419, .string t420], .int .i64 t421, .string t422] rfl (by (try simp only [List.map_toArray, List.map_cons, List.map_nil]); first | done | rfl | (simp only [List.length_drop, List.length_take]; rfl)) ?_; (with_reducible refine (spec_UpdateStripe.calls k _ _ t416 t419 t420 t421 t422 t431 t434 t435 t436 _ ?side1 ?side2 A6.out).mono ?_); (case side1 => exact rC (n := t416.length) (c := co12) ((x3 HO418.out BK430.out (by decide) (.slice Ao16 t424.length co16) (.string t427) (.string t428)))); (case side2 => exact (Kd.R_reads' HO418.out).2.1); rintro e w20 ⟨v432, rfl, ho0, hb⟩; refine ⟨_, rfl, ?_⟩; have HO433 := aM (xL (Kd.R_new' (Kd.R_new' ho0 (Kd.R_lt (xH ((x3 HO418.out BK430.out (by decide) (.slice Ao16 t424.length co16) (.string t427) (.string t428)))))) (Kd.R_lt (xH ((x3 HO426.out BK430.out (by decide) (.slice Ao16 t424.length co16) (.string t427) (.string t428)))))) (zZ (zH HB.out))); replace HO418 := aM (Kd.R_elder' (xH ((x3 HO418.out BK430.out (by decide) (.slice Ao16 t424.length co16) (.string t427) (.string t428)))) (Kd.R_base ho0) hb); replace HO426 := aM (Kd.R_elder' (xH ((x3 HO426.out BK430.out (by decide) (.slice Ao16 t424.length co16) (.string t427) (.string t428)))) (Kd.R_base ho0) hb); replace BK423 := aM (yB (g := gb423) (o := .cells #[.slice Ao12 t416.length co12, .string t419, .string t420] 27 (0, 0)) (by (with_reducible repeat (first | refine yN ?_ _ | refine yD ?_ | refine yA ?_ _)); refine yF ?_ NB423_430.out _; (with_reducible repeat (first | refine yN ?_ _ | refine yD ?_ | refine yA ?_ _)); refine yF ?_ NB423_430.out _; (with_reducible repeat (first | refine yN ?_ _ | refine yD ?_ | refine yA ?_ _)); refine yF ?_ NB423_430.out _; (with_reducible repeat (first | refine yN ?_ _ | refine yD ?_ | refine yA ?_ _)); exact BK423.out) hb); replace BK430 := aM (yB (g := gb430) (o := .cells #[.slice Ao16 t424.length co16, .string t427, .string t428] 27 (0, 0)) (by (with_reducible repeat (first | refine yN ?_ _ | refine yD ?_ | refine yA ?_ _)); refine yP (cs := #[.slice Ao16 t424.length co16, .string t427, .string (⟨#[]⟩ : ByteArray)]) ?_ 2 _ rfl; (with_reducible repeat (first | refine yN ?_ _ | refine yD ?_ | refine yA ?_ _)); refine yP (cs := #[.slice Ao16 t424.length co16, .string (⟨#[]⟩ : ByteArray), .string (⟨#[]⟩ : ByteArray)]) ?_ 1 _ rfl; (with_reducible repeat (first | refine yN ?_ _ | refine yD ?_ | refine yA ?_ _)); refine yP (cs := #[.slice none 0 0, .string (⟨#[]⟩ : ByteArray), .string (⟨#[]⟩ : ByteArray)]) ?_ 0 _ rfl; (with_reducible repeat (first | refine yN ?_ _ | refine yD ?_ | refine yA ?_ _)); exact BK430.out) hb); replace HB := aM (zT (zH HB.out) hb); (try clear hb); (try clear ho0)) | ((with_reducible refine gate_dst (N := 10) rfl ?_); refine box_event ?hg (N := 10) ?hd (cs := #[.slice none 0 0, .string (⟨#[]⟩ : ByteArray), .string (⟨#[]⟩ : ByteArray)]) (t := 27) ?hr ?_; (case hd => rfl); (case hg => rfl); (case hr => first | (go_simp; done) | (go_simp; rfl)); intro gb437 hg w21 hbox hb; replace HO418 := xK HO418.out hb; replace HO426 := xK HO426.out hb; replace HO433 := xK HO433.out hb; have BK437 := aM (hbox); have GW437 := aM ((by rw [hg]; exact (zZ (zH HB.out)) : w.heap.size ≤ gb437)); have GE437 := aM ((by rw [hg]; exact (zZ (zH HB.out)) : w.heap.size ≤ gb437)); replace HB := aM (zT (zH HB.out) hb); have NB423_437 := nL BK423.out hg; have NB437_423 := nR BK423.out hg; replace BK423 := yK BK423.out hb; have NB430_437 := nL BK430.out hg; have NB437_430 := nR BK430.out hg; replace BK430 := yK BK430.out hb; clear hb hbox hg; obtain ⟨Ao22, co22, eo22⟩ := Kd.R_slice HO433.out; subst eo22; have hnb23 := NB437_423.out; have hnc23 := NB423_437.out; have hnb24 := NB437_430.out; have hnc24 := NB430_437.out; have hcz25_0 : w21.cell? ⟨gb437, 0, none⟩ = some (.slice none 0 0) := yc BK437.out 0; have hcz25_1 : w21.cell? ⟨gb437, 1, none⟩ = some (.string (⟨#[]⟩ : ByteArray)) := yc BK437.out 1; have hcz25_2 : w21.cell? ⟨gb437, 2, none⟩ = some (.string (⟨#[]⟩ : ByteArray)) := yc BK437.out 2; have hfz25_0 := yZ BK437.out 0; have hfz25_1 := yZ BK437.out 1; have hfz25_2 := yZ BK437.out 2; have hcz26_0 : w21.cell? ⟨gb423, 0, none⟩ = some (.slice Ao12 t416.length co12) := yc BK423.out 0; have hcz26_1 : w21.cell? ⟨gb423, 1, none⟩ = some (.string t419) := yc BK423.out 1; have hcz26_2 : w21.cell? ⟨gb423, 2, none⟩ = some (.string t420) := yc BK423.out 2; have hfz26_0 := yZ BK423.out 0; have hfz26_1 := yZ BK423.out 1; have hfz26_2 := yZ BK423.out 2) | ((with_reducible refine gate_callee (f := 18) rfl ?_); refine goesL_ (some 57) rfl rfl Try.func18 (by kernel_rfl) rfl #[.agg #[.slice Ao12 t416.length co12, .string t419, .string t420]] rfl (by (try simp only [List.map_toArray, List.map_cons, List.map_nil]); first | done | rfl | (simp only [List.length_drop, List.length_take]; rfl)) ?_; (with_reducible refine (impl_CheckStripe.calls k _ _ t416 t419 t420 t438 t439 _ ?side1 ?side2 A7.out).mono ?_); (case side1 => exact rC (n := t416.length) (c := co12) ((x3 HO418.out BK437.out (by decide) (.slice Ao22 t431.length co22) (.string t434) (.string t435)))); (case side2 => exact (Kd.R_reads' HO418.out).2.1); rintro e w27 ⟨rfl, hb⟩; refine ⟨_, rfl, ?_⟩; replace HO418 := aM (xB (xH ((x3 HO418.out BK437.out (by decide) (.slice Ao22 t431.length co22) (.string t434) (.string t435)))) hb); replace HO426 := aM (xB (xH ((x3 HO426.out BK437.out (by decide) (.slice Ao22 t431.length co22) (.string t434) (.string t435)))) hb); replace HO433 := aM (xB (xH ((x3 HO433.out BK437.out (by decide) (.slice Ao22 t431.length co22) (.string t434) (.string t435)))) hb); replace BK423 := aM (yB (g := gb423) (o := .cells #[.slice Ao12 t416.length co12, .string t419, .string t420] 27 (0, 0)) (by (with_reducible repeat (first | refine yN ?_ _ | refine yD ?_ | refine yA ?_ _)); refine yF ?_ NB423_437.out _; (with_reducible repeat (first | refine yN ?_ _ | refine yD ?_ | refine yA ?_ _)); refine yF ?_ NB423_437.out _; (with_reducible repeat (first | refine yN ?_ _ | refine yD ?_ | refine yA ?_ _)); refine yF ?_ NB423_437.out _; (with_reducible repeat (first | refine yN ?_ _ | refine yD ?_ | refine yA ?_ _)); exact BK423.out) hb); replace BK430 := aM (yB (g := gb430) (o := .cells #[.slice Ao16 t424.length co16, .string t427, .string t428] 27 (0, 0)) (by (with_reducible repeat (first | refine yN ?_ _ | refine yD ?_ | refine yA ?_ _)); refine yF ?_ NB430_437.out _; (with_reducible repeat (first | refine yN ?_ _ | refine yD ?_ | refine yA ?_ _)); refine yF ?_ NB430_437.out _; (with_reducible repeat (first | refine yN ?_ _ | refine yD ?_ | refine yA ?_ _)); refine yF ?_ NB430_437.out _; (with_reducible repeat (first | refine yN ?_ _ | refine yD ?_ | refine yA ?_ _)); exact BK430.out) hb); replace BK437 := aM (yB (g := gb437) (o := .cells #[.slice Ao22 t431.length co22, .string t434, .string t435] 27 (0, 0)) (by (with_reducible repeat (first | refine yN ?_ _ | refine yD ?_ | refine yA ?_ _)); refine yP (cs := #[.slice Ao22 t431.length co22, .string t434, .string (⟨#[]⟩ : ByteArray)]) ?_ 2 _ rfl; (with_reducible repeat (first | refine yN ?_ _ | refine yD ?_ | refine yA ?_ _)); refine yP (cs := #[.slice Ao22 t431.length co22, .string (⟨#[]⟩ : ByteArray), .string (⟨#[]⟩ : ByteArray)]) ?_ 1 _ rfl; (with_reducible repeat (first | refine yN ?_ _ | refine yD ?_ | refine yA ?_ _)); refine yP (cs := #[.slice none 0 0, .string (⟨#[]⟩ : ByteArray), .string (⟨#[]⟩ : ByteArray)]) ?_ 0 _ rfl; (with_reducible repeat (first | refine yN ?_ _ | refine yD ?_ | refine yA ?_ _)); exact BK437.out) hb); replace HB := aM (zT (zH HB.out) hb); (try clear hb); have hcz28_0 : w27.cell? ⟨gb423, 0, none⟩ = some (.slice Ao12 t416.length co12) := yc BK423.out 0; have hcz28_1 : w27.cell? ⟨gb423, 1, none⟩ = some (.string t419) := yc BK423.out 1; have hcz28_2 : w27.cell? ⟨gb423, 2, none⟩ = some (.string t420) := yc BK423.out 2; have hfz28_0 := yZ BK423.out 0; have hfz28_1 := yZ BK423.out 1; have hfz28_2 := yZ BK423.out 2) | ((with_reducible refine gate_callee (f := 17) rfl ?_); refine goesL_ (some 62) rfl rfl Try.func17 (by kernel_rfl) rfl #[.agg #[.slice Ao12 t416.length co12, .string t419, .string t420]] rfl (by (try simp only [List.map_toArray, List.map_cons, List.map_nil]); first | done | rfl | (simp only [List.length_drop, List.length_take]; rfl)) ?_; (with_reducible refine (spec_CheckStripe.calls k _ _ t416 t419 t420 t440 t441 _ ?side1 ?side2 A8.out).mono ?_); (case side1 => repeat (first | exact (Kd.R_reads' HO418.out).2.2 | (with_reducible refine cA ?_ _) | (with_reducible refine cN ?_ _) | (with_reducible refine cD ?_))); (case side2 => exact (Kd.R_reads' HO418.out).2.1); rintro e w29 ⟨rfl, hb⟩; refine ⟨_, rfl, ?_⟩; replace HO418 := xK HO418.out hb; replace HO426 := xK HO426.out hb; replace HO433 := xK HO433.out hb; replace BK423 := yK BK423.out hb; replace BK430 := yK BK430.out hb; replace BK437 := yK BK437.out hb; replace HB := aM (zT (zH HB.out) hb); (try clear hb)))
  (try simp only [Act.put, qA, qB, qC])
  go_cut [83] (fun v83 wc => ∃ (kq : Nat) (x83_8 : Bool), v83 = .bool x83_8 ∧ Aside0 (laws_FnUpdated.j0 kq l1 t421 t422 t429 t438 x83_8 t424 t427 t428 = some r) ∧ Aside0 (kq ≤ k) ∧ Aside0 (Kd.R Kd.string 9 wc w.heap.size (fun k_ => some k_ ≠ oB Ao16 t424.length co16 ∧ some k_ ≠ oB Ao22 t431.length co22) (.slice Ao12 t416.length co12) t416) ∧ Aside0 (Kd.R Kd.string 9 wc w.heap.size (fun k_ => some k_ ≠ oB Ao12 t416.length co12 ∧ some k_ ≠ oB Ao22 t431.length co22) (.slice Ao16 t424.length co16) t424) ∧ Aside0 (Kd.R Kd.string 9 wc w.heap.size (fun k_ => some k_ ≠ oB Ao12 t416.length co12 ∧ some k_ ≠ oB Ao16 t424.length co16) (.slice Ao22 t431.length co22) t431) ∧ Aside0 (wc.heap[gb423]? = some (.cells #[(.slice Ao12 t416.length co12), .string t419, .string t420] 27 (0, 0))) ∧ Aside0 (wc.heap[gb430]? = some (.cells #[(.slice Ao16 t424.length co16), .string t427, .string t428] 27 (0, 0))) ∧ Aside0 (wc.heap[gb437]? = some (.cells #[(.slice Ao22 t431.length co22), .string t434, .string t435] 27 (0, 0))) ∧ Aside0 (Below w.heap.size w wc))
  case first =>
   have H := HC9.out
   clear HC9
   by_cases c30 : (t429 != t436) = true
   ·rw [if_pos c30] at H
    have c30b0 : (t429 != t436) = true := c30
    (try (have c30b1 : decide (t429 = t436) = false := by simpa using c30))
    (try (have c30b2 : (t429 == t436) = false := by simpa using c30))
    (try (have c30b3 : ¬ (t429 = t436) := by simpa using c30))
    clear c30
    (first | rw [c30b0] | (simp only [i64_w, i32_w]; rw [c30b0]) | skip)
    have H' := aM H
    clear H
    go_wp2
    go_meet
    case rel => exact ⟨_, (true), (by first | rfl | (simp; done) | (simp [*]; done)), H', ⟨by first | omega | exact Nat.le_refl _⟩, ⟨xH (xM HO418.out (fun _ hk => ⟨hk.1.2, hk.2⟩))⟩, ⟨xH (xM HO426.out (fun _ hk => ⟨hk.1.2, hk.2⟩))⟩, ⟨xH (xM HO433.out (fun _ hk => ⟨hk.1.2, hk.2⟩))⟩, ⟨yH BK423.out⟩, ⟨yH BK430.out⟩, ⟨yH BK437.out⟩, ⟨zH HB.out⟩⟩
   ·rw [if_neg c30] at H
    have c30b0 : (t429 != t436) = false := by simpa using c30
    (try (have c30b1 : decide (t429 = t436) = true := by simpa using c30))
    (try (have c30b2 : (t429 == t436) = true := by simpa using c30))
    clear c30
    (first | rw [c30b0] | (simp only [i64_w, i32_w]; rw [c30b0]) | skip)
    replace H := Option.bind_eq_some_iff.mp H
    obtain ⟨t442, A310, H⟩ := H
    replace H : (if t442 = true then (if (t438 != t440) = true then (laws_FnUpdated.j0 k l1 t421 t422 t429 t438 true t424 t427 t428) else (laws_FnUpdated.j0 k l1 t421 t422 t429 t438 (t439 != t441) t424 t427 t428)) else (laws_FnUpdated.j0 k l1 t421 t422 t429 t438 true t424 t427 t428)) = some r := H
    have A31 := aM A310
    clear A310
    by_cases c32 : t442 = true
    ·subst c32
     have H1 : (if (t438 != t440) = true then (laws_FnUpdated.j0 k l1 t421 t422 t429 t438 true t424 t427 t428) else (laws_FnUpdated.j0 k l1 t421 t422 t429 t438 (t439 != t441) t424 t427 t428)) = some r := by rw [if_pos rfl] at H; exact H
     clear H
     have H := H1
     clear H1
     by_cases c33 : (t438 != t440) = true
     ·rw [if_pos c33] at H
      have c33b0 : (t438 != t440) = true := c33
      (try (have c33b1 : decide (t438 = t440) = false := by simpa using c33))
      (try (have c33b2 : (t438 == t440) = false := by simpa using c33))
      (try (have c33b3 : ¬ (t438 = t440) := by simpa using c33))
      clear c33
      have H' := aM H
      clear H
      have hnb34 := NB430_423.out
      have hnc34 := NB423_430.out
      have hnb35 := NB430_437.out
      have hnc35 := NB437_430.out
      have hcz36_0 : w29.cell? ⟨gb430, 0, none⟩ = some (.slice Ao16 t424.length co16) := yc BK430.out 0
      have hcz36_1 : w29.cell? ⟨gb430, 1, none⟩ = some (.string t427) := yc BK430.out 1
      have hcz36_2 : w29.cell? ⟨gb430, 2, none⟩ = some (.string t428) := yc BK430.out 2
      have hfz36_0 := yZ BK430.out 0
      have hfz36_1 := yZ BK430.out 1
      have hfz36_2 := yZ BK430.out 2
      have hnb37 := NB437_423.out
      have hnc37 := NB423_437.out
      have hcz38_0 : w29.cell? ⟨gb437, 0, none⟩ = some (.slice Ao22 t431.length co22) := yc BK437.out 0
      have hcz38_1 : w29.cell? ⟨gb437, 1, none⟩ = some (.string t434) := yc BK437.out 1
      have hcz38_2 : w29.cell? ⟨gb437, 2, none⟩ = some (.string t435) := yc BK437.out 2
      have hfz38_0 := yZ BK437.out 0
      have hfz38_1 := yZ BK437.out 1
      have hfz38_2 := yZ BK437.out 2
      go_wp2_with (first | (go_at_call 36; (with_reducible refine (laws_sameStripes.calls k _ _ t424 t427 t428 _ _ t431 t434 t435 true _ ?side1 ?side2 ?side3 ?side4 A31.out).mono ?_); (case side1 => repeat (first | exact (Kd.R_reads' HO426.out).2.2 | (with_reducible refine cA ?_ _) | (with_reducible refine cN ?_ _) | (with_reducible refine cD ?_))); (case side2 => exact (Kd.R_reads' HO426.out).2.1); (case side3 => repeat (first | exact (Kd.R_reads' HO433.out).2.2 | (with_reducible refine cA ?_ _) | (with_reducible refine cN ?_ _) | (with_reducible refine cD ?_))); (case side4 => exact (Kd.R_reads' HO433.out).2.1); rintro e w39 ⟨rfl, hb⟩; replace HO418 := xK HO418.out hb; replace HO426 := xK HO426.out hb; replace HO433 := xK HO433.out hb; replace BK423 := yK BK423.out hb; replace BK430 := yK BK430.out hb; replace BK437 := yK BK437.out hb; replace HB := aM (zT (zH HB.out) hb); (try clear hb)))
      go_meet
      case rel => exact ⟨_, (true), (by first | rfl | (simp; done) | (simp [*]; done)), H', ⟨by first | omega | exact Nat.le_refl _⟩, ⟨xH (xM HO418.out (fun _ hk => ⟨hk.1.2, hk.2⟩))⟩, ⟨xH (xM HO426.out (fun _ hk => ⟨hk.1.2, hk.2⟩))⟩, ⟨xH (xM HO433.out (fun _ hk => ⟨hk.1.2, hk.2⟩))⟩, ⟨yH BK423.out⟩, ⟨yH BK430.out⟩, ⟨yH BK437.out⟩, ⟨zH HB.out⟩⟩
     ·rw [if_neg c33] at H
      have c33b0 : (t438 != t440) = false := by simpa using c33
      (try (have c33b1 : decide (t438 = t440) = true := by simpa using c33))
      (try (have c33b2 : (t438 == t440) = true := by simpa using c33))
      clear c33
      have H' := aM H
      clear H
      have hnb40 := NB430_423.out
      have hnc40 := NB423_430.out
      have hnb41 := NB430_437.out
      have hnc41 := NB437_430.out
      have hcz42_0 : w29.cell? ⟨gb430, 0, none⟩ = some (.slice Ao16 t424.length co16) := yc BK430.out 0
      have hcz42_1 : w29.cell? ⟨gb430, 1, none⟩ = some (.string t427) := yc BK430.out 1
      have hcz42_2 : w29.cell? ⟨gb430, 2, none⟩ = some (.string t428) := yc BK430.out 2
      have hfz42_0 := yZ BK430.out 0
      have hfz42_1 := yZ BK430.out 1
      have hfz42_2 := yZ BK430.out 2
      have hnb43 := NB437_423.out
      have hnc43 := NB423_437.out
      have hcz44_0 : w29.cell? ⟨gb437, 0, none⟩ = some (.slice Ao22 t431.length co22) := yc BK437.out 0
      have hcz44_1 : w29.cell? ⟨gb437, 1, none⟩ = some (.string t434) := yc BK437.out 1
      have hcz44_2 : w29.cell? ⟨gb437, 2, none⟩ = some (.string t435) := yc BK437.out 2
      have hfz44_0 := yZ BK437.out 0
      have hfz44_1 := yZ BK437.out 1
      have hfz44_2 := yZ BK437.out 2
      go_wp2_with (first | (go_at_call 36; (with_reducible refine (laws_sameStripes.calls k _ _ t424 t427 t428 _ _ t431 t434 t435 true _ ?side1 ?side2 ?side3 ?side4 A31.out).mono ?_); (case side1 => repeat (first | exact (Kd.R_reads' HO426.out).2.2 | (with_reducible refine cA ?_ _) | (with_reducible refine cN ?_ _) | (with_reducible refine cD ?_))); (case side2 => exact (Kd.R_reads' HO426.out).2.1); (case side3 => repeat (first | exact (Kd.R_reads' HO433.out).2.2 | (with_reducible refine cA ?_ _) | (with_reducible refine cN ?_ _) | (with_reducible refine cD ?_))); (case side4 => exact (Kd.R_reads' HO433.out).2.1); rintro e w45 ⟨rfl, hb⟩; replace HO418 := xK HO418.out hb; replace HO426 := xK HO426.out hb; replace HO433 := xK HO433.out hb; replace BK423 := yK BK423.out hb; replace BK430 := yK BK430.out hb; replace BK437 := yK BK437.out hb; replace HB := aM (zT (zH HB.out) hb); (try clear hb)))
      go_meet
      case rel => exact ⟨_, ((t439 != t441)), (by first | rfl | (simp; done) | (simp [*]; done)), H', ⟨by first | omega | exact Nat.le_refl _⟩, ⟨xH (xM HO418.out (fun _ hk => ⟨hk.1.2, hk.2⟩))⟩, ⟨xH (xM HO426.out (fun _ hk => ⟨hk.1.2, hk.2⟩))⟩, ⟨xH (xM HO433.out (fun _ hk => ⟨hk.1.2, hk.2⟩))⟩, ⟨yH BK423.out⟩, ⟨yH BK430.out⟩, ⟨yH BK437.out⟩, ⟨zH HB.out⟩⟩
    ·replace c32 := Bool.eq_false_iff.mpr c32
     subst c32
     have H1 : (laws_FnUpdated.j0 k l1 t421 t422 t429 t438 true t424 t427 t428) = some r := by rw [if_neg (show ¬ (false = true) by decide)] at H; exact H
     clear H
     have H := H1
     clear H1
     have H' := aM H
     clear H
     have hnb46 := NB430_423.out
     have hnc46 := NB423_430.out
     have hnb47 := NB430_437.out
     have hnc47 := NB437_430.out
     have hcz48_0 : w29.cell? ⟨gb430, 0, none⟩ = some (.slice Ao16 t424.length co16) := yc BK430.out 0
     have hcz48_1 : w29.cell? ⟨gb430, 1, none⟩ = some (.string t427) := yc BK430.out 1
     have hcz48_2 : w29.cell? ⟨gb430, 2, none⟩ = some (.string t428) := yc BK430.out 2
     have hfz48_0 := yZ BK430.out 0
     have hfz48_1 := yZ BK430.out 1
     have hfz48_2 := yZ BK430.out 2
     have hnb49 := NB437_423.out
     have hnc49 := NB423_437.out
     have hcz50_0 : w29.cell? ⟨gb437, 0, none⟩ = some (.slice Ao22 t431.length co22) := yc BK437.out 0
     have hcz50_1 : w29.cell? ⟨gb437, 1, none⟩ = some (.string t434) := yc BK437.out 1
     have hcz50_2 : w29.cell? ⟨gb437, 2, none⟩ = some (.string t435) := yc BK437.out 2
     have hfz50_0 := yZ BK437.out 0
     have hfz50_1 := yZ BK437.out 1
     have hfz50_2 := yZ BK437.out 2
     go_wp2_with (first | (go_at_call 36; (with_reducible refine (laws_sameStripes.calls k _ _ t424 t427 t428 _ _ t431 t434 t435 false _ ?side1 ?side2 ?side3 ?side4 A31.out).mono ?_); (case side1 => repeat (first | exact (Kd.R_reads' HO426.out).2.2 | (with_reducible refine cA ?_ _) | (with_reducible refine cN ?_ _) | (with_reducible refine cD ?_))); (case side2 => exact (Kd.R_reads' HO426.out).2.1); (case side3 => repeat (first | exact (Kd.R_reads' HO433.out).2.2 | (with_reducible refine cA ?_ _) | (with_reducible refine cN ?_ _) | (with_reducible refine cD ?_))); (case side4 => exact (Kd.R_reads' HO433.out).2.1); rintro e w51 ⟨rfl, hb⟩; replace HO418 := xK HO418.out hb; replace HO426 := xK HO426.out hb; replace HO433 := xK HO433.out hb; replace BK423 := yK BK423.out hb; replace BK430 := yK BK430.out hb; replace BK437 := yK BK437.out hb; replace HB := aM (zT (zH HB.out) hb); (try clear hb)))
     go_meet
     case rel => exact ⟨_, (true), (by first | rfl | (simp; done) | (simp [*]; done)), H', ⟨by first | omega | exact Nat.le_refl _⟩, ⟨xH (xM HO418.out (fun _ hk => ⟨hk.1.2, hk.2⟩))⟩, ⟨xH (xM HO426.out (fun _ hk => ⟨hk.1.2, hk.2⟩))⟩, ⟨xH (xM HO433.out (fun _ hk => ⟨hk.1.2, hk.2⟩))⟩, ⟨yH BK423.out⟩, ⟨yH BK430.out⟩, ⟨yH BK437.out⟩, ⟨zH HB.out⟩⟩
  case rest =>
   clear HC9
   (try clear c1); (try clear c2); (try clear p2); (try clear c3); (try clear c3b0); (try clear c4); (try clear p6); (try clear c10); (try clear c17); (try clear c18); (try clear c23); (try clear c24); (try clear c27); (try clear c28); (try clear c30); (try clear c30b0); (try clear c30b1); (try clear c30b2); (try clear c32); (try clear c33); (try clear c33b0); (try clear c33b1); (try clear c33b2); (try clear c34); (try clear c35); (try clear c37); (try clear c40); (try clear c41); (try clear c43); (try clear c46); (try clear c47); (try clear c49); (try clear hcz13_0); (try clear hcz13_1); (try clear hcz13_2); (try clear hcz18_0); (try clear hcz18_1); (try clear hcz18_2); (try clear hcz19_0); (try clear hcz19_1); (try clear hcz19_2); (try clear hcz25_0); (try clear hcz25_1); (try clear hcz25_2); (try clear hcz26_0); (try clear hcz26_1); (try clear hcz26_2); (try clear hcz28_0); (try clear hcz28_1); (try clear hcz28_2); (try clear hcz36_0); (try clear hcz36_1); (try clear hcz36_2); (try clear hcz38_0); (try clear hcz38_1); (try clear hcz38_2); (try clear hcz42_0); (try clear hcz42_1); (try clear hcz42_2); (try clear hcz44_0); (try clear hcz44_1); (try clear hcz44_2); (try clear hcz48_0); (try clear hcz48_1); (try clear hcz48_2); (try clear hcz50_0); (try clear hcz50_1); (try clear hcz50_2); (try clear hfz13_0); (try clear hfz13_1); (try clear hfz13_2); (try clear hfz18_0); (try clear hfz18_1); (try clear hfz18_2); (try clear hfz19_0); (try clear hfz19_1); (try clear hfz19_2); (try clear hfz25_0); (try clear hfz25_1); (try clear hfz25_2); (try clear hfz26_0); (try clear hfz26_1); (try clear hfz26_2); (try clear hfz28_0); (try clear hfz28_1); (try clear hfz28_2); (try clear hfz36_0); (try clear hfz36_1); (try clear hfz36_2); (try clear hfz38_0); (try clear hfz38_1); (try clear hfz38_2); (try clear hfz42_0); (try clear hfz42_1); (try clear hfz42_2); (try clear hfz44_0); (try clear hfz44_1); (try clear hfz44_2); (try clear hfz48_0); (try clear hfz48_1); (try clear hfz48_2); (try clear hfz50_0); (try clear hfz50_1); (try clear hfz50_2)
   obtain ⟨kq, x83_8, rfl, HA, HJ8, p0', p1', p2', BK423, BK430, BK437, HB⟩ := hcut
   cases kq with
   | zero => exact absurd HA.out (fun h_ => by change none = some _ at h_; cases h_)
   | succ kj8 =>
    have H := HA.out
    clear HA
    simp only [laws_FnUpdated.j0] at H
    by_cases c52 : x83_8 = true
    ·subst c52
     have H1 : (some false) = some r := by rw [if_pos rfl] at H; exact H
     clear H
     have H := H1
     clear H1
     exact absurd (H.trans (congrArg some HR_.out)) (by decide)
    ·replace c52 := Bool.eq_false_iff.mpr c52
     subst c52
     have H1 : (if t429 = true then ((impl_CheckStripe.f kj8 t424 t427 t428).bind fun bt443 => ((impl_MakeStripe.f kj8 t424).bind fun bt445 => (if bt443.2 = true then (if bt445.2.2.2 = true then (if (bt443.1 != t438) = true then (some false) else (if t438 = true then ((laws_sameStripes.f kj8 bt445.1 bt445.2.1 bt445.2.2.1 t424 t427 t428).bind fun t452 => (if t452 = true then (if 0 ≤ t421 then (if t421 < (t424.length : Int) then (if (rdOf ByteArray.empty t424 t421).toList = t422.toList then (laws_FnUpdated.j1 kj8 l1) else (some false)) else (none)) else (none)) else (some false))) else (if 0 ≤ t421 then (if t421 < (t424.length : Int) then (if (rdOf ByteArray.empty t424 t421).toList = t422.toList then (laws_FnUpdated.j1 kj8 l1) else (some false)) else (none)) else (none)))) else (some false)) else (some false)))) else (laws_FnUpdated.j1 kj8 l1)) = some r := by rw [if_neg (show ¬ (false = true) by decide)] at H; exact H
     clear H
     have H := H1
     clear H1
     have HC53 := aM H
     clear H
     go_upto_if 84 with (fail)
     go_cut [] (fun wc => ∃ (kq : Nat), Aside0 (laws_FnUpdated.j1 kq l1 = some r) ∧ Aside0 (kq ≤ kj8) ∧ Aside0 (Kd.R Kd.string 9 wc w.heap.size (fun k_ => some k_ ≠ oB Ao16 t424.length co16 ∧ some k_ ≠ oB Ao22 t431.length co22) (.slice Ao12 t416.length co12) t416) ∧ Aside0 (Kd.R Kd.string 9 wc w.heap.size (fun k_ => some k_ ≠ oB Ao12 t416.length co12 ∧ some k_ ≠ oB Ao22 t431.length co22) (.slice Ao16 t424.length co16) t424) ∧ Aside0 (Kd.R Kd.string 9 wc w.heap.size (fun k_ => some k_ ≠ oB Ao12 t416.length co12 ∧ some k_ ≠ oB Ao16 t424.length co16) (.slice Ao22 t431.length co22) t431) ∧ Aside0 (wc.heap[gb423]? = some (.cells #[(.slice Ao12 t416.length co12), .string t419, .string t420] 27 (0, 0))) ∧ Aside0 (wc.heap[gb430]? = some (.cells #[(.slice Ao16 t424.length co16), .string t427, .string t428] 27 (0, 0))) ∧ Aside0 (wc.heap[gb437]? = some (.cells #[(.slice Ao22 t431.length co22), .string t434, .string t435] 27 (0, 0))) ∧ Aside0 (Below w.heap.size w wc))
     case first =>
      have H := HC53.out
      clear HC53
      by_cases c54 : t429 = true
      ·subst c54
       have H1 : ((impl_CheckStripe.f kj8 t424 t427 t428).bind fun bt443 => ((impl_MakeStripe.f kj8 t424).bind fun bt445 => (if bt443.2 = true then (if bt445.2.2.2 = true then (if (bt443.1 != t438) = true then (some false) else (if t438 = true then ((laws_sameStripes.f kj8 bt445.1 bt445.2.1 bt445.2.2.1 t424 t427 t428).bind fun t452 => (if t452 = true then (if 0 ≤ t421 then (if t421 < (t424.length : Int) then (if (rdOf ByteArray.empty t424 t421).toList = t422.toList then (laws_FnUpdated.j1 kj8 l1) else (some false)) else (none)) else (none)) else (some false))) else (if 0 ≤ t421 then (if t421 < (t424.length : Int) then (if (rdOf ByteArray.empty t424 t421).toList = t422.toList then (laws_FnUpdated.j1 kj8 l1) else (some false)) else (none)) else (none)))) else (some false)) else (some false)))) = some r := by rw [if_pos rfl] at H; exact H
       clear H
       have H := H1
       clear H1
       replace H := Option.bind_eq_some_iff.mp H
       obtain ⟨⟨t443, t444⟩, A550, H⟩ := H
       replace H : ((impl_MakeStripe.f kj8 t424).bind fun bt445 => (if t444 = true then (if bt445.2.2.2 = true then (if (t443 != t438) = true then (some false) else (if t438 = true then ((laws_sameStripes.f kj8 bt445.1 bt445.2.1 bt445.2.2.1 t424 t427 t428).bind fun t452 => (if t452 = true then (if 0 ≤ t421 then (if t421 < (t424.length : Int) then (if (rdOf ByteArray.empty t424 t421).toList = t422.toList then (laws_FnUpdated.j1 kj8 l1) else (some false)) else (none)) else (none)) else (some false))) else (if 0 ≤ t421 then (if t421 < (t424.length : Int) then (if (rdOf ByteArray.empty t424 t421).toList = t422.toList then (laws_FnUpdated.j1 kj8 l1) else (some false)) else (none)) else (none)))) else (some false)) else (some false))) = some r := H
       have A55 := aM A550
       clear A550
       replace H := Option.bind_eq_some_iff.mp H
       obtain ⟨⟨t445, t448, t449, t450⟩, A560, H⟩ := H
       replace H : (if t444 = true then (if t450 = true then (if (t443 != t438) = true then (some false) else (if t438 = true then ((laws_sameStripes.f kj8 t445 t448 t449 t424 t427 t428).bind fun t452 => (if t452 = true then (if 0 ≤ t421 then (if t421 < (t424.length : Int) then (if (rdOf ByteArray.empty t424 t421).toList = t422.toList then (laws_FnUpdated.j1 kj8 l1) else (some false)) else (none)) else (none)) else (some false))) else (if 0 ≤ t421 then (if t421 < (t424.length : Int) then (if (rdOf ByteArray.empty t424 t421).toList = t422.toList then (laws_FnUpdated.j1 kj8 l1) else (some false)) else (none)) else (none)))) else (some false)) else (some false)) = some r := H
       have A56 := aM A560
       clear A560
       by_cases c57 : t444 = true
       ·subst c57
        have H1 : (if t450 = true then (if (t443 != t438) = true then (some false) else (if t438 = true then ((laws_sameStripes.f kj8 t445 t448 t449 t424 t427 t428).bind fun t452 => (if t452 = true then (if 0 ≤ t421 then (if t421 < (t424.length : Int) then (if (rdOf ByteArray.empty t424 t421).toList = t422.toList then (laws_FnUpdated.j1 kj8 l1) else (some false)) else (none)) else (none)) else (some false))) else (if 0 ≤ t421 then (if t421 < (t424.length : Int) then (if (rdOf ByteArray.empty t424 t421).toList = t422.toList then (laws_FnUpdated.j1 kj8 l1) else (some false)) else (none)) else (none)))) else (some false)) = some r := by rw [if_pos rfl] at H; exact H
        clear H
        have H := H1
        clear H1
        by_cases c58 : t450 = true
        ·subst c58
         have H1 : (if (t443 != t438) = true then (some false) else (if t438 = true then ((laws_sameStripes.f kj8 t445 t448 t449 t424 t427 t428).bind fun t452 => (if t452 = true then (if 0 ≤ t421 then (if t421 < (t424.length : Int) then (if (rdOf ByteArray.empty t424 t421).toList = t422.toList then (laws_FnUpdated.j1 kj8 l1) else (some false)) else (none)) else (none)) else (some false))) else (if 0 ≤ t421 then (if t421 < (t424.length : Int) then (if (rdOf ByteArray.empty t424 t421).toList = t422.toList then (laws_FnUpdated.j1 kj8 l1) else (some false)) else (none)) else (none)))) = some r := by rw [if_pos rfl] at H; exact H
         clear H
         have H := H1
         clear H1
         by_cases c59 : (t443 != t438) = true
         ·rw [if_pos c59] at H
          have c59b0 : (t443 != t438) = true := c59
          (try (have c59b1 : decide (t443 = t438) = false := by simpa using c59))
          (try (have c59b2 : (t443 == t438) = false := by simpa using c59))
          (try (have c59b3 : ¬ (t443 = t438) := by simpa using c59))
          clear c59
          (first | rw [c59b0] | (simp only [i64_w, i32_w]; rw [c59b0]) | skip)
          obtain rfl := Option.some.inj H
          have hnb60 := NB430_423.out
          have hnc60 := NB423_430.out
          have hnb61 := NB430_437.out
          have hnc61 := NB437_430.out
          have hcz62_0 : wc.cell? ⟨gb430, 0, none⟩ = some (.slice Ao16 t424.length co16) := yc BK430.out 0
          have hcz62_1 : wc.cell? ⟨gb430, 1, none⟩ = some (.string t427) := yc BK430.out 1
          have hcz62_2 : wc.cell? ⟨gb430, 2, none⟩ = some (.string t428) := yc BK430.out 2
          have hfz62_0 := yZ BK430.out 0
          have hfz62_1 := yZ BK430.out 1
          have hfz62_2 := yZ BK430.out 2
          go_wp2_with (first | ((with_reducible refine gate_callee (f := 18) rfl ?_); refine goesL_ (some 87) rfl rfl Try.func18 (by kernel_rfl) rfl #[.agg #[.slice Ao16 t424.length co16, .string t427, .string t428]] rfl (by (try simp only [List.map_toArray, List.map_cons, List.map_nil]); first | done | rfl | (simp only [List.length_drop, List.length_take]; rfl)) ?_; (with_reducible refine (impl_CheckStripe.calls kj8 _ _ t424 t427 t428 t443 true _ ?side1 ?side2 A55.out).mono ?_); (case side1 => repeat (first | exact (Kd.R_reads' p1'.out).2.2 | (with_reducible refine cA ?_ _) | (with_reducible refine cN ?_ _) | (with_reducible refine cD ?_))); (case side2 => exact (Kd.R_reads' p1'.out).2.1); rintro e w63 ⟨rfl, hb⟩; refine ⟨_, rfl, ?_⟩; replace p0' := xK p0'.out hb; replace p1' := xK p1'.out hb; replace p2' := xK p2'.out hb; replace BK423 := yK BK423.out hb; replace BK430 := yK BK430.out hb; replace BK437 := yK BK437.out hb; replace HB := aM (zT (zH HB.out) hb); (try clear hb); have hcz64_0 : w63.cell? ⟨gb430, 0, none⟩ = some (.slice Ao16 t424.length co16) := yc BK430.out 0; have hcz64_1 : w63.cell? ⟨gb430, 1, none⟩ = some (.string t427) := yc BK430.out 1; have hcz64_2 : w63.cell? ⟨gb430, 2, none⟩ = some (.string t428) := yc BK430.out 2; have hfz64_0 := yZ BK430.out 0; have hfz64_1 := yZ BK430.out 1; have hfz64_2 := yZ BK430.out 2) | ((with_reducible refine gate_callee (f := 22) rfl ?_); refine goesL_ (some 93) rfl rfl Try.func22 (by kernel_rfl) rfl #[.slice Ao16 t424.length co16] rfl (by (try simp only [List.map_toArray, List.map_cons, List.map_nil]); first | done | rfl | (simp only [List.length_drop, List.length_take]; rfl)) ?_; (with_reducible refine (impl_MakeStripe.calls kj8 _ _ t424 t445 t448 t449 true _ ?side1 ?side2 A56.out).mono ?_); (case side1 => repeat (first | exact (Kd.R_reads' p1'.out).2.2 | (with_reducible refine cA ?_ _) | (with_reducible refine cN ?_ _) | (with_reducible refine cD ?_))); (case side2 => exact (Kd.R_reads' p1'.out).2.1); rintro e w65 ⟨v446, rfl, ho0, hb⟩; refine ⟨_, rfl, ?_⟩; have HO447 := aM (xL (Kd.R_new' (Kd.R_new' (Kd.R_new' ho0 (Kd.R_lt (xH p0'.out))) (Kd.R_lt (xH p1'.out))) (Kd.R_lt (xH p2'.out))) (zZ (zH HB.out))); replace p0' := aM (Kd.R_elder' (xH p0'.out) (Kd.R_base ho0) hb); replace p1' := aM (Kd.R_elder' (xH p1'.out) (Kd.R_base ho0) hb); replace p2' := aM (Kd.R_elder' (xH p2'.out) (Kd.R_base ho0) hb); replace BK423 := yK BK423.out hb; replace BK430 := yK BK430.out hb; replace BK437 := yK BK437.out hb; replace HB := aM (zT (zH HB.out) hb); (try clear hb); (try clear ho0)) | ((with_reducible refine gate_dst (N := 18) rfl ?_); refine box_event ?hg (N := 18) ?hd (cs := #[.slice none 0 0, .string (⟨#[]⟩ : ByteArray), .string (⟨#[]⟩ : ByteArray)]) (t := 27) ?hr ?_; (case hd => rfl); (case hg => rfl); (case hr => first | (go_simp; done) | (go_simp; rfl)); intro gb451 hg w66 hbox hb; replace p0' := xK p0'.out hb; replace p1' := xK p1'.out hb; replace p2' := xK p2'.out hb; replace HO447 := xK HO447.out hb; have BK451 := aM (hbox); have GW451 := aM ((by rw [hg]; exact (zZ (zH HB.out)) : w.heap.size ≤ gb451)); have GE451 := aM ((by rw [hg]; exact (zZ (zH HB.out)) : w.heap.size ≤ gb451)); replace HB := aM (zT (zH HB.out) hb); have NB423_451 := nL BK423.out hg; have NB451_423 := nR BK423.out hg; replace BK423 := yK BK423.out hb; have NB430_451 := nL BK430.out hg; have NB451_430 := nR BK430.out hg; replace BK430 := yK BK430.out hb; have NB437_451 := nL BK437.out hg; have NB451_437 := nR BK437.out hg; replace BK437 := yK BK437.out hb; clear hb hbox hg; obtain ⟨Ao67, co67, eo67⟩ := Kd.R_slice HO447.out; subst eo67; have hnb68 := NB451_423.out; have hnc68 := NB423_451.out; have hnb69 := NB451_430.out; have hnc69 := NB430_451.out; have hnb70 := NB451_437.out; have hnc70 := NB437_451.out; have hcz71_0 : w66.cell? ⟨gb451, 0, none⟩ = some (.slice none 0 0) := yc BK451.out 0; have hcz71_1 : w66.cell? ⟨gb451, 1, none⟩ = some (.string (⟨#[]⟩ : ByteArray)) := yc BK451.out 1; have hcz71_2 : w66.cell? ⟨gb451, 2, none⟩ = some (.string (⟨#[]⟩ : ByteArray)) := yc BK451.out 2; have hfz71_0 := yZ BK451.out 0; have hfz71_1 := yZ BK451.out 1; have hfz71_2 := yZ BK451.out 2))
          go_ret
          exact ⟨by first | rfl | (simp [errW_none, errW_some] <;> rfl) | (simp [*, errW_none, errW_some] <;> rfl), zH HB.out⟩
         ·rw [if_neg c59] at H
          have c59b0 : (t443 != t438) = false := by simpa using c59
          (try (have c59b1 : decide (t443 = t438) = true := by simpa using c59))
          (try (have c59b2 : (t443 == t438) = true := by simpa using c59))
          clear c59
          (first | rw [c59b0] | (simp only [i64_w, i32_w]; rw [c59b0]) | skip)
          by_cases c72 : t438 = true
          ·subst c72
           have H1 : ((laws_sameStripes.f kj8 t445 t448 t449 t424 t427 t428).bind fun t452 => (if t452 = true then (if 0 ≤ t421 then (if t421 < (t424.length : Int) then (if (rdOf ByteArray.empty t424 t421).toList = t422.toList then (laws_FnUpdated.j1 kj8 l1) else (some false)) else (none)) else (none)) else (some false))) = some r := by rw [if_pos rfl] at H; exact H
           clear H
           have H := H1
           clear H1
           replace H := Option.bind_eq_some_iff.mp H
           obtain ⟨t452, A730, H⟩ := H
           replace H : (if t452 = true then (if 0 ≤ t421 then (if t421 < (t424.length : Int) then (if (rdOf ByteArray.empty t424 t421).toList = t422.toList then (laws_FnUpdated.j1 kj8 l1) else (some false)) else (none)) else (none)) else (some false)) = some r := H
           have A73 := aM A730
           clear A730
           by_cases c74 : t452 = true
           ·subst c74
            have H1 : (if 0 ≤ t421 then (if t421 < (t424.length : Int) then (if (rdOf ByteArray.empty t424 t421).toList = t422.toList then (laws_FnUpdated.j1 kj8 l1) else (some false)) else (none)) else (none)) = some r := by rw [if_pos rfl] at H; exact H
            clear H
            have H := H1
            clear H1
            by_cases c75 : 0 ≤ t421
            ·rw [if_pos c75] at H
             have c75b0 : decide (0 ≤ t421) = true := decide_eq_true c75
             clear c75
             by_cases c76 : t421 < (t424.length : Int)
             ·rw [if_pos c76] at H
              have c76b0 : decide (t421 < (t424.length : Int)) = true := decide_eq_true c76
              clear c76
              by_cases c77 : (rdOf ByteArray.empty t424 t421).toList = t422.toList
              ·rw [if_pos c77] at H
               have c77b0 : ((rdOf ByteArray.empty t424 t421).toList == t422.toList) = true := beq_iff_eq.mpr c77
               have c77b1 : ((rdOf ByteArray.empty t424 t421).toList != t422.toList) = false := bne_eq_false_iff_eq.mpr c77
               clear c77
               have H' := aM H
               clear H
               have hnb78 := NB430_423.out
               have hnc78 := NB423_430.out
               have hnb79 := NB430_437.out
               have hnc79 := NB437_430.out
               have hcz80_0 : wc.cell? ⟨gb430, 0, none⟩ = some (.slice Ao16 t424.length co16) := yc BK430.out 0
               have hcz80_1 : wc.cell? ⟨gb430, 1, none⟩ = some (.string t427) := yc BK430.out 1
               have hcz80_2 : wc.cell? ⟨gb430, 2, none⟩ = some (.string t428) := yc BK430.out 2
               have hfz80_0 := yZ BK430.out 0
               have hfz80_1 := yZ BK430.out 1
               have hfz80_2 := yZ BK430.out 2
               go_wp2_with (first | ((with_reducible refine gate_callee (f := 18) rfl ?_); refine goesL_ (some 87) rfl rfl Try.func18 (by kernel_rfl) rfl #[.agg #[.slice Ao16 t424.length co16, .string t427, .string t428]] rfl (by (try simp only [List.map_toArray, List.map_cons, List.map_nil]); first | done | rfl | (simp only [List.length_drop, List.length_take]; rfl)) ?_; (with_reducible refine (impl_CheckStripe.calls kj8 _ _ t424 t427 t428 t443 true _ ?side1 ?side2 A55.out).mono ?_); (case side1 => repeat (first | exact (Kd.R_reads' p1'.out).2.2 | (with_reducible refine cA ?_ _) | (with_reducible refine cN ?_ _) | (with_reducible refine cD ?_))); (case side2 => exact (Kd.R_reads' p1'.out).2.1); rintro e w81 ⟨rfl, hb⟩; refine ⟨_, rfl, ?_⟩; replace p0' := xK p0'.out hb; replace p1' := xK p1'.out hb; replace p2' := xK p2'.out hb; replace BK423 := yK BK423.out hb; replace BK430 := yK BK430.out hb; replace BK437 := yK BK437.out hb; replace HB := aM (zT (zH HB.out) hb); (try clear hb); have hcz82_0 : w81.cell? ⟨gb430, 0, none⟩ = some (.slice Ao16 t424.length co16) := yc BK430.out 0; have hcz82_1 : w81.cell? ⟨gb430, 1, none⟩ = some (.string t427) := yc BK430.out 1; have hcz82_2 : w81.cell? ⟨gb430, 2, none⟩ = some (.string t428) := yc BK430.out 2; have hfz82_0 := yZ BK430.out 0; have hfz82_1 := yZ BK430.out 1; have hfz82_2 := yZ BK430.out 2) | ((with_reducible refine gate_callee (f := 22) rfl ?_); refine goesL_ (some 93) rfl rfl Try.func22 (by kernel_rfl) rfl #[.slice Ao16 t424.length co16] rfl (by (try simp only [List.map_toArray, List.map_cons, List.map_nil]); first | done | rfl | (simp only [List.length_drop, List.length_take]; rfl)) ?_; (with_reducible refine (impl_MakeStripe.calls kj8 _ _ t424 t445 t448 t449 true _ ?side1 ?side2 A56.out).mono ?_); (case side1 => repeat (first | exact (Kd.R_reads' p1'.out).2.2 | (with_reducible refine cA ?_ _) | (with_reducible refine cN ?_ _) | (with_reducible refine cD ?_))); (case side2 => exact (Kd.R_reads' p1'.out).2.1); rintro e w83 ⟨v446, rfl, ho0, hb⟩; refine ⟨_, rfl, ?_⟩; have HO447 := aM (xL (Kd.R_new' (Kd.R_new' (Kd.R_new' ho0 (Kd.R_lt (xH p0'.out))) (Kd.R_lt (xH p1'.out))) (Kd.R_lt (xH p2'.out))) (zZ (zH HB.out))); replace p0' := aM (Kd.R_elder' (xH p0'.out) (Kd.R_base ho0) hb); replace p1' := aM (Kd.R_elder' (xH p1'.out) (Kd.R_base ho0) hb); replace p2' := aM (Kd.R_elder' (xH p2'.out) (Kd.R_base ho0) hb); replace BK423 := yK BK423.out hb; replace BK430 := yK BK430.out hb; replace BK437 := yK BK437.out hb; replace HB := aM (zT (zH HB.out) hb); (try clear hb); (try clear ho0)) | ((with_reducible refine gate_dst (N := 18) rfl ?_); refine box_event ?hg (N := 18) ?hd (cs := #[.slice none 0 0, .string (⟨#[]⟩ : ByteArray), .string (⟨#[]⟩ : ByteArray)]) (t := 27) ?hr ?_; (case hd => rfl); (case hg => rfl); (case hr => first | (go_simp; done) | (go_simp; rfl)); intro gb451 hg w84 hbox hb; replace p0' := xK p0'.out hb; replace p1' := xK p1'.out hb; replace p2' := xK p2'.out hb; replace HO447 := xK HO447.out hb; have BK451 := aM (hbox); have GW451 := aM ((by rw [hg]; exact (zZ (zH HB.out)) : w.heap.size ≤ gb451)); have GE451 := aM ((by rw [hg]; exact (zZ (zH HB.out)) : w.heap.size ≤ gb451)); replace HB := aM (zT (zH HB.out) hb); have NB423_451 := nL BK423.out hg; have NB451_423 := nR BK423.out hg; replace BK423 := yK BK423.out hb; have NB430_451 := nL BK430.out hg; have NB451_430 := nR BK430.out hg; replace BK430 := yK BK430.out hb; have NB437_451 := nL BK437.out hg; have NB451_437 := nR BK437.out hg; replace BK437 := yK BK437.out hb; clear hb hbox hg; obtain ⟨Ao85, co85, eo85⟩ := Kd.R_slice HO447.out; subst eo85; have hnb86 := NB451_423.out; have hnc86 := NB423_451.out; have hnb87 := NB451_430.out; have hnc87 := NB430_451.out; have hnb88 := NB451_437.out; have hnc88 := NB437_451.out; have hcz89_0 : w84.cell? ⟨gb451, 0, none⟩ = some (.slice none 0 0) := yc BK451.out 0; have hcz89_1 : w84.cell? ⟨gb451, 1, none⟩ = some (.string (⟨#[]⟩ : ByteArray)) := yc BK451.out 1; have hcz89_2 : w84.cell? ⟨gb451, 2, none⟩ = some (.string (⟨#[]⟩ : ByteArray)) := yc BK451.out 2; have hfz89_0 := yZ BK451.out 0; have hfz89_1 := yZ BK451.out 1; have hfz89_2 := yZ BK451.out 2; have hcz90_0 : w84.cell? ⟨gb430, 0, none⟩ = some (.slice Ao16 t424.length co16) := yc BK430.out 0; have hcz90_1 : w84.cell? ⟨gb430, 1, none⟩ = some (.string t427) := yc BK430.out 1; have hcz90_2 : w84.cell? ⟨gb430, 2, none⟩ = some (.string t428) := yc BK430.out 2; have hfz90_0 := yZ BK430.out 0; have hfz90_1 := yZ BK430.out 1; have hfz90_2 := yZ BK430.out 2) | (go_at_call 36; (with_reducible refine (laws_sameStripes.calls kj8 _ _ t445 t448 t449 _ _ t424 t427 t428 true _ ?side1 ?side2 ?side3 ?side4 A73.out).mono ?_); (case side1 => exact rC (n := t445.length) (c := co85) ((x3 HO447.out BK451.out (by decide) (.slice Ao85 t445.length co85) (.string t448) (.string t449)))); (case side2 => exact (Kd.R_reads' HO447.out).2.1); (case side3 => exact rC (n := t424.length) (c := co16) ((x3 p1'.out BK451.out (by decide) (.slice Ao85 t445.length co85) (.string t448) (.string t449)))); (case side4 => exact (Kd.R_reads' p1'.out).2.1); rintro e w91 ⟨rfl, hb⟩; replace p0' := aM (xB (xH ((x3 p0'.out BK451.out (by decide) (.slice Ao85 t445.length co85) (.string t448) (.string t449)))) hb); replace p1' := aM (xB (xH ((x3 p1'.out BK451.out (by decide) (.slice Ao85 t445.length co85) (.string t448) (.string t449)))) hb); replace p2' := aM (xB (xH ((x3 p2'.out BK451.out (by decide) (.slice Ao85 t445.length co85) (.string t448) (.string t449)))) hb); replace HO447 := aM (xB (xH ((x3 HO447.out BK451.out (by decide) (.slice Ao85 t445.length co85) (.string t448) (.string t449)))) hb); replace BK423 := aM (yB (g := gb423) (o := .cells #[.slice Ao12 t416.length co12, .string t419, .string t420] 27 (0, 0)) (by (with_reducible repeat (first | refine yN ?_ _ | refine yD ?_ | refine yA ?_ _)); refine yF ?_ NB423_451.out _; (with_reducible repeat (first | refine yN ?_ _ | refine yD ?_ | refine yA ?_ _)); refine yF ?_ NB423_451.out _; (with_reducible repeat (first | refine yN ?_ _ | refine yD ?_ | refine yA ?_ _)); refine yF ?_ NB423_451.out _; (with_reducible repeat (first | refine yN ?_ _ | refine yD ?_ | refine yA ?_ _)); exact BK423.out) hb); replace BK430 := aM (yB (g := gb430) (o := .cells #[.slice Ao16 t424.length co16, .string t427, .string t428] 27 (0, 0)) (by (with_reducible repeat (first | refine yN ?_ _ | refine yD ?_ | refine yA ?_ _)); refine yF ?_ NB430_451.out _; (with_reducible repeat (first | refine yN ?_ _ | refine yD ?_ | refine yA ?_ _)); refine yF ?_ NB430_451.out _; (with_reducible repeat (first | refine yN ?_ _ | refine yD ?_ | refine yA ?_ _)); refine yF ?_ NB430_451.out _; (with_reducible repeat (first | refine yN ?_ _ | refine yD ?_ | refine yA ?_ _)); exact BK430.out) hb); replace BK437 := aM (yB (g := gb437) (o := .cells #[.slice Ao22 t431.length co22, .string t434, .string t435] 27 (0, 0)) (by (with_reducible repeat (first | refine yN ?_ _ | refine yD ?_ | refine yA ?_ _)); refine yF ?_ NB437_451.out _; (with_reducible repeat (first | refine yN ?_ _ | refine yD ?_ | refine yA ?_ _)); refine yF ?_ NB437_451.out _; (with_reducible repeat (first | refine yN ?_ _ | refine yD ?_ | refine yA ?_ _)); refine yF ?_ NB437_451.out _; (with_reducible repeat (first | refine yN ?_ _ | refine yD ?_ | refine yA ?_ _)); exact BK437.out) hb); replace BK451 := aM (yB (g := gb451) (o := .cells #[.slice Ao85 t445.length co85, .string t448, .string t449] 27 (0, 0)) (by (with_reducible repeat (first | refine yN ?_ _ | refine yD ?_ | refine yA ?_ _)); refine yP (cs := #[.slice Ao85 t445.length co85, .string t448, .string (⟨#[]⟩ : ByteArray)]) ?_ 2 _ rfl; (with_reducible repeat (first | refine yN ?_ _ | refine yD ?_ | refine yA ?_ _)); refine yP (cs := #[.slice Ao85 t445.length co85, .string (⟨#[]⟩ : ByteArray), .string (⟨#[]⟩ : ByteArray)]) ?_ 1 _ rfl; (with_reducible repeat (first | refine yN ?_ _ | refine yD ?_ | refine yA ?_ _)); refine yP (cs := #[.slice none 0 0, .string (⟨#[]⟩ : ByteArray), .string (⟨#[]⟩ : ByteArray)]) ?_ 0 _ rfl; (with_reducible repeat (first | refine yN ?_ _ | refine yD ?_ | refine yA ?_ _)); exact BK451.out) hb); replace HB := aM (zT (zH HB.out) hb); (try clear hb); have hcz92_0 : w91.cell? ⟨gb430, 0, none⟩ = some (.slice Ao16 t424.length co16) := yc BK430.out 0; have hcz92_1 : w91.cell? ⟨gb430, 1, none⟩ = some (.string t427) := yc BK430.out 1; have hcz92_2 : w91.cell? ⟨gb430, 2, none⟩ = some (.string t428) := yc BK430.out 2; have hfz92_0 := yZ BK430.out 0; have hfz92_1 := yZ BK430.out 1; have hfz92_2 := yZ BK430.out 2; have p453 : 0 ≤ (t421 : Int) := of_decide_eq_true (by first | (with_reducible assumption) | assumption); have q453 : t421 < (t424.length : Int) := of_decide_eq_true (by first | (with_reducible assumption) | assumption); obtain ⟨ad453, e453, hx453_0⟩ := Kd.at_string (Kd.R_reads' p1'.out).2.2 t421 p453 q453; cases e453; replace p453 := eq_true p453; replace q453 := eq_true q453))
               go_meet
               case rel => exact ⟨_, H', ⟨by have := HJ8.out; first | omega | exact Nat.le_refl _⟩, ⟨xH (xM p0'.out (fun _ hk => ⟨hk.1.1, hk.1.2⟩))⟩, ⟨xH (xM p1'.out (fun _ hk => ⟨hk.1.1, hk.1.2⟩))⟩, ⟨xH (xM p2'.out (fun _ hk => ⟨hk.1.1, hk.1.2⟩))⟩, ⟨yH BK423.out⟩, ⟨yH BK430.out⟩, ⟨yH BK437.out⟩, ⟨zH HB.out⟩⟩
              ·rw [if_neg c77] at H
               have c77b0 : ((rdOf ByteArray.empty t424 t421).toList == t422.toList) = false := beq_eq_false_iff_ne.mpr c77
               have c77b1 : ((rdOf ByteArray.empty t424 t421).toList != t422.toList) = true := bne_iff_ne.mpr c77
               obtain rfl := Option.some.inj H
               have hnb93 := NB430_423.out
               have hnc93 := NB423_430.out
               have hnb94 := NB430_437.out
               have hnc94 := NB437_430.out
               have hcz95_0 : wc.cell? ⟨gb430, 0, none⟩ = some (.slice Ao16 t424.length co16) := yc BK430.out 0
               have hcz95_1 : wc.cell? ⟨gb430, 1, none⟩ = some (.string t427) := yc BK430.out 1
               have hcz95_2 : wc.cell? ⟨gb430, 2, none⟩ = some (.string t428) := yc BK430.out 2
               have hfz95_0 := yZ BK430.out 0
               have hfz95_1 := yZ BK430.out 1
               have hfz95_2 := yZ BK430.out 2
               go_wp2_with (first | ((with_reducible refine gate_callee (f := 18) rfl ?_); refine goesL_ (some 87) rfl rfl Try.func18 (by kernel_rfl) rfl #[.agg #[.slice Ao16 t424.length co16, .string t427, .string t428]] rfl (by (try simp only [List.map_toArray, List.map_cons, List.map_nil]); first | done | rfl | (simp only [List.length_drop, List.length_take]; rfl)) ?_; (with_reducible refine (impl_CheckStripe.calls kj8 _ _ t424 t427 t428 t443 true _ ?side1 ?side2 A55.out).mono ?_); (case side1 => repeat (first | exact (Kd.R_reads' p1'.out).2.2 | (with_reducible refine cA ?_ _) | (with_reducible refine cN ?_ _) | (with_reducible refine cD ?_))); (case side2 => exact (Kd.R_reads' p1'.out).2.1); rintro e w96 ⟨rfl, hb⟩; refine ⟨_, rfl, ?_⟩; replace p0' := xK p0'.out hb; replace p1' := xK p1'.out hb; replace p2' := xK p2'.out hb; replace BK423 := yK BK423.out hb; replace BK430 := yK BK430.out hb; replace BK437 := yK BK437.out hb; replace HB := aM (zT (zH HB.out) hb); (try clear hb); have hcz97_0 : w96.cell? ⟨gb430, 0, none⟩ = some (.slice Ao16 t424.length co16) := yc BK430.out 0; have hcz97_1 : w96.cell? ⟨gb430, 1, none⟩ = some (.string t427) := yc BK430.out 1; have hcz97_2 : w96.cell? ⟨gb430, 2, none⟩ = some (.string t428) := yc BK430.out 2; have hfz97_0 := yZ BK430.out 0; have hfz97_1 := yZ BK430.out 1; have hfz97_2 := yZ BK430.out 2) | ((with_reducible refine gate_callee (f := 22) rfl ?_); refine goesL_ (some 93) rfl rfl Try.func22 (by kernel_rfl) rfl #[.slice Ao16 t424.length co16] rfl (by (try simp only [List.map_toArray, List.map_cons, List.map_nil]); first | done | rfl | (simp only [List.length_drop, List.length_take]; rfl)) ?_; (with_reducible refine (impl_MakeStripe.calls kj8 _ _ t424 t445 t448 t449 true _ ?side1 ?side2 A56.out).mono ?_); (case side1 => repeat (first | exact (Kd.R_reads' p1'.out).2.2 | (with_reducible refine cA ?_ _) | (with_reducible refine cN ?_ _) | (with_reducible refine cD ?_))); (case side2 => exact (Kd.R_reads' p1'.out).2.1); rintro e w98 ⟨v446, rfl, ho0, hb⟩; refine ⟨_, rfl, ?_⟩; have HO447 := aM (xL (Kd.R_new' (Kd.R_new' (Kd.R_new' ho0 (Kd.R_lt (xH p0'.out))) (Kd.R_lt (xH p1'.out))) (Kd.R_lt (xH p2'.out))) (zZ (zH HB.out))); replace p0' := aM (Kd.R_elder' (xH p0'.out) (Kd.R_base ho0) hb); replace p1' := aM (Kd.R_elder' (xH p1'.out) (Kd.R_base ho0) hb); replace p2' := aM (Kd.R_elder' (xH p2'.out) (Kd.R_base ho0) hb); replace BK423 := yK BK423.out hb; replace BK430 := yK BK430.out hb; replace BK437 := yK BK437.out hb; replace HB := aM (zT (zH HB.out) hb); (try clear hb); (try clear ho0)) | ((with_reducible refine gate_dst (N := 18) rfl ?_); refine box_event ?hg (N := 18) ?hd (cs := #[.slice none 0 0, .string (⟨#[]⟩ : ByteArray), .string (⟨#[]⟩ : ByteArray)]) (t := 27) ?hr ?_; (case hd => rfl); (case hg => rfl); (case hr => first | (go_simp; done) | (go_simp; rfl)); intro gb451 hg w99 hbox hb; replace p0' := xK p0'.out hb; replace p1' := xK p1'.out hb; replace p2' := xK p2'.out hb; replace HO447 := xK HO447.out hb; have BK451 := aM (hbox); have GW451 := aM ((by rw [hg]; exact (zZ (zH HB.out)) : w.heap.size ≤ gb451)); have GE451 := aM ((by rw [hg]; exact (zZ (zH HB.out)) : w.heap.size ≤ gb451)); replace HB := aM (zT (zH HB.out) hb); have NB423_451 := nL BK423.out hg; have NB451_423 := nR BK423.out hg; replace BK423 := yK BK423.out hb; have NB430_451 := nL BK430.out hg; have NB451_430 := nR BK430.out hg; replace BK430 := yK BK430.out hb; have NB437_451 := nL BK437.out hg; have NB451_437 := nR BK437.out hg; replace BK437 := yK BK437.out hb; clear hb hbox hg; obtain ⟨Ao100, co100, eo100⟩ := Kd.R_slice HO447.out; subst eo100; have hnb101 := NB451_423.out; have hnc101 := NB423_451.out; have hnb102 := NB451_430.out; have hnc102 := NB430_451.out; have hnb103 := NB451_437.out; have hnc103 := NB437_451.out; have hcz104_0 : w99.cell? ⟨gb451, 0, none⟩ = some (.slice none 0 0) := yc BK451.out 0; have hcz104_1 : w99.cell? ⟨gb451, 1, none⟩ = some (.string (⟨#[]⟩ : ByteArray)) := yc BK451.out 1; have hcz104_2 : w99.cell? ⟨gb451, 2, none⟩ = some (.string (⟨#[]⟩ : ByteArray)) := yc BK451.out 2; have hfz104_0 := yZ BK451.out 0; have hfz104_1 := yZ BK451.out 1; have hfz104_2 := yZ BK451.out 2; have hcz105_0 : w99.cell? ⟨gb430, 0, none⟩ = some (.slice Ao16 t424.length co16) := yc BK430.out 0; have hcz105_1 : w99.cell? ⟨gb430, 1, none⟩ = some (.string t427) := yc BK430.out 1; have hcz105_2 : w99.cell? ⟨gb430, 2, none⟩ = some (.string t428) := yc BK430.out 2; have hfz105_0 := yZ BK430.out 0; have hfz105_1 := yZ BK430.out 1; have hfz105_2 := yZ BK430.out 2) | (go_at_call 36; (with_reducible refine (laws_sameStripes.calls kj8 _ _ t445 t448 t449 _ _ t424 t427 t428 true _ ?side1 ?side2 ?side3 ?side4 A73.out).mono ?_); (case side1 => exact rC (n := t445.length) (c := co100) ((x3 HO447.out BK451.out (by decide) (.slice Ao100 t445.length co100) (.string t448) (.string t449)))); (case side2 => exact (Kd.R_reads' HO447.out).2.1); (case side3 => exact rC (n := t424.length) (c := co16) ((x3 p1'.out BK451.out (by decide) (.slice Ao100 t445.length co100) (.string t448) (.string t449)))); (case side4 => exact (Kd.R_reads' p1'.out).2.1); rintro e w106 ⟨rfl, hb⟩; replace p0' := aM (xB (xH ((x3 p0'.out BK451.out (by decide) (.slice Ao100 t445.length co100) (.string t448) (.string t449)))) hb); replace p1' := aM (xB (xH ((x3 p1'.out BK451.out (by decide) (.slice Ao100 t445.length co100) (.string t448) (.string t449)))) hb); replace p2' := aM (xB (xH ((x3 p2'.out BK451.out (by decide) (.slice Ao100 t445.length co100) (.string t448) (.string t449)))) hb); replace HO447 := aM (xB (xH ((x3 HO447.out BK451.out (by decide) (.slice Ao100 t445.length co100) (.string t448) (.string t449)))) hb); replace BK423 := aM (yB (g := gb423) (o := .cells #[.slice Ao12 t416.length co12, .string t419, .string t420] 27 (0, 0)) (by (with_reducible repeat (first | refine yN ?_ _ | refine yD ?_ | refine yA ?_ _)); refine yF ?_ NB423_451.out _; (with_reducible repeat (first | refine yN ?_ _ | refine yD ?_ | refine yA ?_ _)); refine yF ?_ NB423_451.out _; (with_reducible repeat (first | refine yN ?_ _ | refine yD ?_ | refine yA ?_ _)); refine yF ?_ NB423_451.out _; (with_reducible repeat (first | refine yN ?_ _ | refine yD ?_ | refine yA ?_ _)); exact BK423.out) hb); replace BK430 := aM (yB (g := gb430) (o := .cells #[.slice Ao16 t424.length co16, .string t427, .string t428] 27 (0, 0)) (by (with_reducible repeat (first | refine yN ?_ _ | refine yD ?_ | refine yA ?_ _)); refine yF ?_ NB430_451.out _; (with_reducible repeat (first | refine yN ?_ _ | refine yD ?_ | refine yA ?_ _)); refine yF ?_ NB430_451.out _; (with_reducible repeat (first | refine yN ?_ _ | refine yD ?_ | refine yA ?_ _)); refine yF ?_ NB430_451.out _; (with_reducible repeat (first | refine yN ?_ _ | refine yD ?_ | refine yA ?_ _)); exact BK430.out) hb); replace BK437 := aM (yB (g := gb437) (o := .cells #[.slice Ao22 t431.length co22, .string t434, .string t435] 27 (0, 0)) (by (with_reducible repeat (first | refine yN ?_ _ | refine yD ?_ | refine yA ?_ _)); refine yF ?_ NB437_451.out _; (with_reducible repeat (first | refine yN ?_ _ | refine yD ?_ | refine yA ?_ _)); refine yF ?_ NB437_451.out _; (with_reducible repeat (first | refine yN ?_ _ | refine yD ?_ | refine yA ?_ _)); refine yF ?_ NB437_451.out _; (with_reducible repeat (first | refine yN ?_ _ | refine yD ?_ | refine yA ?_ _)); exact BK437.out) hb); replace BK451 := aM (yB (g := gb451) (o := .cells #[.slice Ao100 t445.length co100, .string t448, .string t449] 27 (0, 0)) (by (with_reducible repeat (first | refine yN ?_ _ | refine yD ?_ | refine yA ?_ _)); refine yP (cs := #[.slice Ao100 t445.length co100, .string t448, .string (⟨#[]⟩ : ByteArray)]) ?_ 2 _ rfl; (with_reducible repeat (first | refine yN ?_ _ | refine yD ?_ | refine yA ?_ _)); refine yP (cs := #[.slice Ao100 t445.length co100, .string (⟨#[]⟩ : ByteArray), .string (⟨#[]⟩ : ByteArray)]) ?_ 1 _ rfl; (with_reducible repeat (first | refine yN ?_ _ | refine yD ?_ | refine yA ?_ _)); refine yP (cs := #[.slice none 0 0, .string (⟨#[]⟩ : ByteArray), .string (⟨#[]⟩ : ByteArray)]) ?_ 0 _ rfl; (with_reducible repeat (first | refine yN ?_ _ | refine yD ?_ | refine yA ?_ _)); exact BK451.out) hb); replace HB := aM (zT (zH HB.out) hb); (try clear hb); have hcz107_0 : w106.cell? ⟨gb430, 0, none⟩ = some (.slice Ao16 t424.length co16) := yc BK430.out 0; have hcz107_1 : w106.cell? ⟨gb430, 1, none⟩ = some (.string t427) := yc BK430.out 1; have hcz107_2 : w106.cell? ⟨gb430, 2, none⟩ = some (.string t428) := yc BK430.out 2; have hfz107_0 := yZ BK430.out 0; have hfz107_1 := yZ BK430.out 1; have hfz107_2 := yZ BK430.out 2; have p453 : 0 ≤ (t421 : Int) := of_decide_eq_true (by first | (with_reducible assumption) | assumption); have q453 : t421 < (t424.length : Int) := of_decide_eq_true (by first | (with_reducible assumption) | assumption); obtain ⟨ad453, e453, hx453_0⟩ := Kd.at_string (Kd.R_reads' p1'.out).2.2 t421 p453 q453; cases e453; replace p453 := eq_true p453; replace q453 := eq_true q453))
               go_ret
               exact ⟨by first | rfl | (simp [errW_none, errW_some] <;> rfl) | (simp [*, errW_none, errW_some] <;> rfl), zH HB.out⟩
             ·rw [if_neg c76] at H
              exact absurd H (by simp)
            ·rw [if_neg c75] at H
             exact absurd H (by simp)
           ·replace c74 := Bool.eq_false_iff.mpr c74
            subst c74
            have H1 : (some false) = some r := by rw [if_neg (show ¬ (false = true) by decide)] at H; exact H
            clear H
            have H := H1
            clear H1
            exact absurd (H.trans (congrArg some HR_.out)) (by decide)
          ·replace c72 := Bool.eq_false_iff.mpr c72
           subst c72
           have H1 : (if 0 ≤ t421 then (if t421 < (t424.length : Int) then (if (rdOf ByteArray.empty t424 t421).toList = t422.toList then (laws_FnUpdated.j1 kj8 l1) else (some false)) else (none)) else (none)) = some r := by rw [if_neg (show ¬ (false = true) by decide)] at H; exact H
           clear H
           have H := H1
           clear H1
           by_cases c122 : 0 ≤ t421
           ·rw [if_pos c122] at H
            have c122b0 : decide (0 ≤ t421) = true := decide_eq_true c122
            clear c122
            by_cases c123 : t421 < (t424.length : Int)
            ·rw [if_pos c123] at H
             have c123b0 : decide (t421 < (t424.length : Int)) = true := decide_eq_true c123
             clear c123
             by_cases c124 : (rdOf ByteArray.empty t424 t421).toList = t422.toList
             ·rw [if_pos c124] at H
              have c124b0 : ((rdOf ByteArray.empty t424 t421).toList == t422.toList) = true := beq_iff_eq.mpr c124
              have c124b1 : ((rdOf ByteArray.empty t424 t421).toList != t422.toList) = false := bne_eq_false_iff_eq.mpr c124
              clear c124
              have H' := aM H
              clear H
              have hnb125 := NB430_423.out
              have hnc125 := NB423_430.out
              have hnb126 := NB430_437.out
              have hnc126 := NB437_430.out
              have hcz127_0 : wc.cell? ⟨gb430, 0, none⟩ = some (.slice Ao16 t424.length co16) := yc BK430.out 0
              have hcz127_1 : wc.cell? ⟨gb430, 1, none⟩ = some (.string t427) := yc BK430.out 1
              have hcz127_2 : wc.cell? ⟨gb430, 2, none⟩ = some (.string t428) := yc BK430.out 2
              have hfz127_0 := yZ BK430.out 0
              have hfz127_1 := yZ BK430.out 1
              have hfz127_2 := yZ BK430.out 2
              go_wp2_with (first | ((with_reducible refine gate_callee (f := 18) rfl ?_); refine goesL_ (some 87) rfl rfl Try.func18 (by kernel_rfl) rfl #[.agg #[.slice Ao16 t424.length co16, .string t427, .string t428]] rfl (by (try simp only [List.map_toArray, List.map_cons, List.map_nil]); first | done | rfl | (simp only [List.length_drop, List.length_take]; rfl)) ?_; (with_reducible refine (impl_CheckStripe.calls kj8 _ _ t424 t427 t428 t443 true _ ?side1 ?side2 A55.out).mono ?_); (case side1 => repeat (first | exact (Kd.R_reads' p1'.out).2.2 | (with_reducible refine cA ?_ _) | (with_reducible refine cN ?_ _) | (with_reducible refine cD ?_))); (case side2 => exact (Kd.R_reads' p1'.out).2.1); rintro e w128 ⟨rfl, hb⟩; refine ⟨_, rfl, ?_⟩; replace p0' := xK p0'.out hb; replace p1' := xK p1'.out hb; replace p2' := xK p2'.out hb; replace BK423 := yK BK423.out hb; replace BK430 := yK BK430.out hb; replace BK437 := yK BK437.out hb; replace HB := aM (zT (zH HB.out) hb); (try clear hb); have hcz129_0 : w128.cell? ⟨gb430, 0, none⟩ = some (.slice Ao16 t424.length co16) := yc BK430.out 0; have hcz129_1 : w128.cell? ⟨gb430, 1, none⟩ = some (.string t427) := yc BK430.out 1; have hcz129_2 : w128.cell? ⟨gb430, 2, none⟩ = some (.string t428) := yc BK430.out 2; have hfz129_0 := yZ BK430.out 0; have hfz129_1 := yZ BK430.out 1; have hfz129_2 := yZ BK430.out 2) | ((with_reducible refine gate_callee (f := 22) rfl ?_); refine goesL_ (some 93) rfl rfl Try.func22 (by kernel_rfl) rfl #[.slice Ao16 t424.length co16] rfl (by (try simp only [List.map_toArray, List.map_cons, List.map_nil]); first | done | rfl | (simp only [List.length_drop, List.length_take]; rfl)) ?_; (with_reducible refine (impl_MakeStripe.calls kj8 _ _ t424 t445 t448 t449 true _ ?side1 ?side2 A56.out).mono ?_); (case side1 => repeat (first | exact (Kd.R_reads' p1'.out).2.2 | (with_reducible refine cA ?_ _) | (with_reducible refine cN ?_ _) | (with_reducible refine cD ?_))); (case side2 => exact (Kd.R_reads' p1'.out).2.1); rintro e w130 ⟨v446, rfl, ho0, hb⟩; refine ⟨_, rfl, ?_⟩; have HO447 := aM (xL (Kd.R_new' (Kd.R_new' (Kd.R_new' ho0 (Kd.R_lt (xH p0'.out))) (Kd.R_lt (xH p1'.out))) (Kd.R_lt (xH p2'.out))) (zZ (zH HB.out))); replace p0' := aM (Kd.R_elder' (xH p0'.out) (Kd.R_base ho0) hb); replace p1' := aM (Kd.R_elder' (xH p1'.out) (Kd.R_base ho0) hb); replace p2' := aM (Kd.R_elder' (xH p2'.out) (Kd.R_base ho0) hb); replace BK423 := yK BK423.out hb; replace BK430 := yK BK430.out hb; replace BK437 := yK BK437.out hb; replace HB := aM (zT (zH HB.out) hb); (try clear hb); (try clear ho0)) | ((with_reducible refine gate_dst (N := 18) rfl ?_); refine box_event ?hg (N := 18) ?hd (cs := #[.slice none 0 0, .string (⟨#[]⟩ : ByteArray), .string (⟨#[]⟩ : ByteArray)]) (t := 27) ?hr ?_; (case hd => rfl); (case hg => rfl); (case hr => first | (go_simp; done) | (go_simp; rfl)); intro gb451 hg w131 hbox hb; replace p0' := xK p0'.out hb; replace p1' := xK p1'.out hb; replace p2' := xK p2'.out hb; replace HO447 := xK HO447.out hb; have BK451 := aM (hbox); have GW451 := aM ((by rw [hg]; exact (zZ (zH HB.out)) : w.heap.size ≤ gb451)); have GE451 := aM ((by rw [hg]; exact (zZ (zH HB.out)) : w.heap.size ≤ gb451)); replace HB := aM (zT (zH HB.out) hb); have NB423_451 := nL BK423.out hg; have NB451_423 := nR BK423.out hg; replace BK423 := yK BK423.out hb; have NB430_451 := nL BK430.out hg; have NB451_430 := nR BK430.out hg; replace BK430 := yK BK430.out hb; have NB437_451 := nL BK437.out hg; have NB451_437 := nR BK437.out hg; replace BK437 := yK BK437.out hb; clear hb hbox hg; obtain ⟨Ao132, co132, eo132⟩ := Kd.R_slice HO447.out; subst eo132; have hnb133 := NB451_423.out; have hnc133 := NB423_451.out; have hnb134 := NB451_430.out; have hnc134 := NB430_451.out; have hnb135 := NB451_437.out; have hnc135 := NB437_451.out; have hcz136_0 : w131.cell? ⟨gb451, 0, none⟩ = some (.slice none 0 0) := yc BK451.out 0; have hcz136_1 : w131.cell? ⟨gb451, 1, none⟩ = some (.string (⟨#[]⟩ : ByteArray)) := yc BK451.out 1; have hcz136_2 : w131.cell? ⟨gb451, 2, none⟩ = some (.string (⟨#[]⟩ : ByteArray)) := yc BK451.out 2; have hfz136_0 := yZ BK451.out 0; have hfz136_1 := yZ BK451.out 1; have hfz136_2 := yZ BK451.out 2; have hcz137_0 : w131.cell? ⟨gb430, 0, none⟩ = some (.slice Ao16 t424.length co16) := yc BK430.out 0; have hcz137_1 : w131.cell? ⟨gb430, 1, none⟩ = some (.string t427) := yc BK430.out 1; have hcz137_2 : w131.cell? ⟨gb430, 2, none⟩ = some (.string t428) := yc BK430.out 2; have hfz137_0 := yZ BK430.out 0; have hfz137_1 := yZ BK430.out 1; have hfz137_2 := yZ BK430.out 2; have p454 : 0 ≤ (t421 : Int) := of_decide_eq_true (by first | (with_reducible assumption) | assumption); have q454 : t421 < (t424.length : Int) := of_decide_eq_true (by first | (with_reducible assumption) | assumption); obtain ⟨ad454, e454, hx454_0⟩ := Kd.at_string (Kd.R_reads' p1'.out).2.2 t421 p454 q454; cases e454; have hn454_0 : ad454.block ≠ gb451 := Kd.own_blk (Kd.R_ne p1'.out BK451.out (by decide)); have hn454_1 : ad454.block ≠ gb451 := Kd.own_blk (Kd.R_ne p1'.out BK451.out (by decide)); have hn454_2 : ad454.block ≠ gb451 := Kd.own_blk (Kd.R_ne p1'.out BK451.out (by decide)); replace hx454_0 := (cell_far (p := ⟨gb451, 0, none⟩) (by first | (rw [add_block]; exact hn454_0) | (show (Addr.add _ _).block ≠ _; rw [add_block]; exact hn454_0) | exact hn454_0) (.slice Ao132 t445.length co132)).trans hx454_0; replace hx454_0 := (cell_far (p := ⟨gb451, 1, none⟩) (by first | (rw [add_block]; exact hn454_1) | (show (Addr.add _ _).block ≠ _; rw [add_block]; exact hn454_1) | exact hn454_1) (.string t448)).trans hx454_0; replace hx454_0 := (cell_far (p := ⟨gb451, 2, none⟩) (by first | (rw [add_block]; exact hn454_2) | (show (Addr.add _ _).block ≠ _; rw [add_block]; exact hn454_2) | exact hn454_2) (.string t449)).trans hx454_0; clear hn454_0; clear hn454_1; clear hn454_2; replace p454 := eq_true p454; replace q454 := eq_true q454))
              go_meet
              case rel => exact ⟨_, H', ⟨by have := HJ8.out; first | omega | exact Nat.le_refl _⟩, ⟨xH (xM (xF (p := ⟨gb451, 2, none⟩) (xF (p := ⟨gb451, 1, none⟩) (xF (p := ⟨gb451, 0, none⟩) (xT p0'.out BK451.out (by decide)) (fun _ hk => hk.2) (.slice Ao132 t445.length co132)) (fun _ hk => hk.2) (.string t448)) (fun _ hk => hk.2) (.string t449)) (fun _ hk => ⟨hk.1.1.1, hk.1.1.2⟩))⟩, ⟨xH (xM (xF (p := ⟨gb451, 2, none⟩) (xF (p := ⟨gb451, 1, none⟩) (xF (p := ⟨gb451, 0, none⟩) (xT p1'.out BK451.out (by decide)) (fun _ hk => hk.2) (.slice Ao132 t445.length co132)) (fun _ hk => hk.2) (.string t448)) (fun _ hk => hk.2) (.string t449)) (fun _ hk => ⟨hk.1.1.1, hk.1.1.2⟩))⟩, ⟨xH (xM (xF (p := ⟨gb451, 2, none⟩) (xF (p := ⟨gb451, 1, none⟩) (xF (p := ⟨gb451, 0, none⟩) (xT p2'.out BK451.out (by decide)) (fun _ hk => hk.2) (.slice Ao132 t445.length co132)) (fun _ hk => hk.2) (.string t448)) (fun _ hk => hk.2) (.string t449)) (fun _ hk => ⟨hk.1.1.1, hk.1.1.2⟩))⟩, ⟨by (with_reducible repeat (first | refine yN ?_ _ | refine yD ?_ | refine yA ?_ _)); refine yF ?_ NB423_451.out _; (with_reducible repeat (first | refine yN ?_ _ | refine yD ?_ | refine yA ?_ _)); refine yF ?_ NB423_451.out _; (with_reducible repeat (first | refine yN ?_ _ | refine yD ?_ | refine yA ?_ _)); refine yF ?_ NB423_451.out _; (with_reducible repeat (first | refine yN ?_ _ | refine yD ?_ | refine yA ?_ _)); exact BK423.out⟩, ⟨by (with_reducible repeat (first | refine yN ?_ _ | refine yD ?_ | refine yA ?_ _)); refine yF ?_ NB430_451.out _; (with_reducible repeat (first | refine yN ?_ _ | refine yD ?_ | refine yA ?_ _)); refine yF ?_ NB430_451.out _; (with_reducible repeat (first | refine yN ?_ _ | refine yD ?_ | refine yA ?_ _)); refine yF ?_ NB430_451.out _; (with_reducible repeat (first | refine yN ?_ _ | refine yD ?_ | refine yA ?_ _)); exact BK430.out⟩, ⟨by (with_reducible repeat (first | refine yN ?_ _ | refine yD ?_ | refine yA ?_ _)); refine yF ?_ NB437_451.out _; (with_reducible repeat (first | refine yN ?_ _ | refine yD ?_ | refine yA ?_ _)); refine yF ?_ NB437_451.out _; (with_reducible repeat (first | refine yN ?_ _ | refine yD ?_ | refine yA ?_ _)); refine yF ?_ NB437_451.out _; (with_reducible repeat (first | refine yN ?_ _ | refine yD ?_ | refine yA ?_ _)); exact BK437.out⟩, ⟨zH HB.out⟩⟩
             ·rw [if_neg c124] at H
              have c124b0 : ((rdOf ByteArray.empty t424 t421).toList == t422.toList) = false := beq_eq_false_iff_ne.mpr c124
              have c124b1 : ((rdOf ByteArray.empty t424 t421).toList != t422.toList) = true := bne_iff_ne.mpr c124
              obtain rfl := Option.some.inj H
              have hnb138 := NB430_423.out
              have hnc138 := NB423_430.out
              have hnb139 := NB430_437.out
              have hnc139 := NB437_430.out
              have hcz140_0 : wc.cell? ⟨gb430, 0, none⟩ = some (.slice Ao16 t424.length co16) := yc BK430.out 0
              have hcz140_1 : wc.cell? ⟨gb430, 1, none⟩ = some (.string t427) := yc BK430.out 1
              have hcz140_2 : wc.cell? ⟨gb430, 2, none⟩ = some (.string t428) := yc BK430.out 2
              have hfz140_0 := yZ BK430.out 0
              have hfz140_1 := yZ BK430.out 1
              have hfz140_2 := yZ BK430.out 2
              go_wp2_with (first | ((with_reducible refine gate_callee (f := 18) rfl ?_); refine goesL_ (some 87) rfl rfl Try.func18 (by kernel_rfl) rfl #[.agg #[.slice Ao16 t424.length co16, .string t427, .string t428]] rfl (by (try simp only [List.map_toArray, List.map_cons, List.map_nil]); first | done | rfl | (simp only [List.length_drop, List.length_take]; rfl)) ?_; (with_reducible refine (impl_CheckStripe.calls kj8 _ _ t424 t427 t428 t443 true _ ?side1 ?side2 A55.out).mono ?_); (case side1 => repeat (first | exact (Kd.R_reads' p1'.out).2.2 | (with_reducible refine cA ?_ _) | (with_reducible refine cN ?_ _) | (with_reducible refine cD ?_))); (case side2 => exact (Kd.R_reads' p1'.out).2.1); rintro e w141 ⟨rfl, hb⟩; refine ⟨_, rfl, ?_⟩; replace p0' := xK p0'.out hb; replace p1' := xK p1'.out hb; replace p2' := xK p2'.out hb; replace BK423 := yK BK423.out hb; replace BK430 := yK BK430.out hb; replace BK437 := yK BK437.out hb; replace HB := aM (zT (zH HB.out) hb); (try clear hb); have hcz142_0 : w141.cell? ⟨gb430, 0, none⟩ = some (.slice Ao16 t424.length co16) := yc BK430.out 0; have hcz142_1 : w141.cell? ⟨gb430, 1, none⟩ = some (.string t427) := yc BK430.out 1; have hcz142_2 : w141.cell? ⟨gb430, 2, none⟩ = some (.string t428) := yc BK430.out 2; have hfz142_0 := yZ BK430.out 0; have hfz142_1 := yZ BK430.out 1; have hfz142_2 := yZ BK430.out 2) | ((with_reducible refine gate_callee (f := 22) rfl ?_); refine goesL_ (some 93) rfl rfl Try.func22 (by kernel_rfl) rfl #[.slice Ao16 t424.length co16] rfl (by (try simp only [List.map_toArray, List.map_cons, List.map_nil]); first | done | rfl | (simp only [List.length_drop, List.length_take]; rfl)) ?_; (with_reducible refine (impl_MakeStripe.calls kj8 _ _ t424 t445 t448 t449 true _ ?side1 ?side2 A56.out).mono ?_); (case side1 => repeat (first | exact (Kd.R_reads' p1'.out).2.2 | (with_reducible refine cA ?_ _) | (with_reducible refine cN ?_ _) | (with_reducible refine cD ?_))); (case side2 => exact (Kd.R_reads' p1'.out).2.1); rintro e w143 ⟨v446, rfl, ho0, hb⟩; refine ⟨_, rfl, ?_⟩; have HO447 := aM (xL (Kd.R_new' (Kd.R_new' (Kd.R_new' ho0 (Kd.R_lt (xH p0'.out))) (Kd.R_lt (xH p1'.out))) (Kd.R_lt (xH p2'.out))) (zZ (zH HB.out))); replace p0' := aM (Kd.R_elder' (xH p0'.out) (Kd.R_base ho0) hb); replace p1' := aM (Kd.R_elder' (xH p1'.out) (Kd.R_base ho0) hb); replace p2' := aM (Kd.R_elder' (xH p2'.out) (Kd.R_base ho0) hb); replace BK423 := yK BK423.out hb; replace BK430 := yK BK430.out hb; replace BK437 := yK BK437.out hb; replace HB := aM (zT (zH HB.out) hb); (try clear hb); (try clear ho0)) | ((with_reducible refine gate_dst (N := 18) rfl ?_); refine box_event ?hg (N := 18) ?hd (cs := #[.slice none 0 0, .string (⟨#[]⟩ : ByteArray), .string (⟨#[]⟩ : ByteArray)]) (t := 27) ?hr ?_; (case hd => rfl); (case hg => rfl); (case hr => first | (go_simp; done) | (go_simp; rfl)); intro gb451 hg w144 hbox hb; replace p0' := xK p0'.out hb; replace p1' := xK p1'.out hb; replace p2' := xK p2'.out hb; replace HO447 := xK HO447.out hb; have BK451 := aM (hbox); have GW451 := aM ((by rw [hg]; exact (zZ (zH HB.out)) : w.heap.size ≤ gb451)); have GE451 := aM ((by rw [hg]; exact (zZ (zH HB.out)) : w.heap.size ≤ gb451)); replace HB := aM (zT (zH HB.out) hb); have NB423_451 := nL BK423.out hg; have NB451_423 := nR BK423.out hg; replace BK423 := yK BK423.out hb; have NB430_451 := nL BK430.out hg; have NB451_430 := nR BK430.out hg; replace BK430 := yK BK430.out hb; have NB437_451 := nL BK437.out hg; have NB451_437 := nR BK437.out hg; replace BK437 := yK BK437.out hb; clear hb hbox hg; obtain ⟨Ao145, co145, eo145⟩ := Kd.R_slice HO447.out; subst eo145; have hnb146 := NB451_423.out; have hnc146 := NB423_451.out; have hnb147 := NB451_430.out; have hnc147 := NB430_451.out; have hnb148 := NB451_437.out; have hnc148 := NB437_451.out; have hcz149_0 : w144.cell? ⟨gb451, 0, none⟩ = some (.slice none 0 0) := yc BK451.out 0; have hcz149_1 : w144.cell? ⟨gb451, 1, none⟩ = some (.string (⟨#[]⟩ : ByteArray)) := yc BK451.out 1; have hcz149_2 : w144.cell? ⟨gb451, 2, none⟩ = some (.string (⟨#[]⟩ : ByteArray)) := yc BK451.out 2; have hfz149_0 := yZ BK451.out 0; have hfz149_1 := yZ BK451.out 1; have hfz149_2 := yZ BK451.out 2; have hcz150_0 : w144.cell? ⟨gb430, 0, none⟩ = some (.slice Ao16 t424.length co16) := yc BK430.out 0; have hcz150_1 : w144.cell? ⟨gb430, 1, none⟩ = some (.string t427) := yc BK430.out 1; have hcz150_2 : w144.cell? ⟨gb430, 2, none⟩ = some (.string t428) := yc BK430.out 2; have hfz150_0 := yZ BK430.out 0; have hfz150_1 := yZ BK430.out 1; have hfz150_2 := yZ BK430.out 2; have p454 : 0 ≤ (t421 : Int) := of_decide_eq_true (by first | (with_reducible assumption) | assumption); have q454 : t421 < (t424.length : Int) := of_decide_eq_true (by first | (with_reducible assumption) | assumption); obtain ⟨ad454, e454, hx454_0⟩ := Kd.at_string (Kd.R_reads' p1'.out).2.2 t421 p454 q454; cases e454; have hn454_0 : ad454.block ≠ gb451 := Kd.own_blk (Kd.R_ne p1'.out BK451.out (by decide)); have hn454_1 : ad454.block ≠ gb451 := Kd.own_blk (Kd.R_ne p1'.out BK451.out (by decide)); have hn454_2 : ad454.block ≠ gb451 := Kd.own_blk (Kd.R_ne p1'.out BK451.out (by decide)); replace hx454_0 := (cell_far (p := ⟨gb451, 0, none⟩) (by first | (rw [add_block]; exact hn454_0) | (show (Addr.add _ _).block ≠ _; rw [add_block]; exact hn454_0) | exact hn454_0) (.slice Ao145 t445.length co145)).trans hx454_0; replace hx454_0 := (cell_far (p := ⟨gb451, 1, none⟩) (by first | (rw [add_block]; exact hn454_1) | (show (Addr.add _ _).block ≠ _; rw [add_block]; exact hn454_1) | exact hn454_1) (.string t448)).trans hx454_0; replace hx454_0 := (cell_far (p := ⟨gb451, 2, none⟩) (by first | (rw [add_block]; exact hn454_2) | (show (Addr.add _ _).block ≠ _; rw [add_block]; exact hn454_2) | exact hn454_2) (.string t449)).trans hx454_0; clear hn454_0; clear hn454_1; clear hn454_2; replace p454 := eq_true p454; replace q454 := eq_true q454))
              go_ret
              exact ⟨by first | rfl | (simp [errW_none, errW_some] <;> rfl) | (simp [*, errW_none, errW_some] <;> rfl), zH HB.out⟩
            ·rw [if_neg c123] at H
             exact absurd H (by simp)
           ·rw [if_neg c122] at H
            exact absurd H (by simp)
        ·replace c58 := Bool.eq_false_iff.mpr c58
         subst c58
         have H1 : (some false) = some r := by rw [if_neg (show ¬ (false = true) by decide)] at H; exact H
         clear H
         have H := H1
         clear H1
         exact absurd (H.trans (congrArg some HR_.out)) (by decide)
       ·replace c57 := Bool.eq_false_iff.mpr c57
        subst c57
        have H1 : (some false) = some r := by rw [if_neg (show ¬ (false = true) by decide)] at H; exact H
        clear H
        have H := H1
        clear H1
        exact absurd (H.trans (congrArg some HR_.out)) (by decide)
      ·replace c54 := Bool.eq_false_iff.mpr c54
       subst c54
       have H1 : (laws_FnUpdated.j1 kj8 l1) = some r := by rw [if_neg (show ¬ (false = true) by decide)] at H; exact H
       clear H
       have H := H1
       clear H1
       have H' := aM H
       clear H
       go_wp2
       go_meet
       case rel => exact ⟨_, H', ⟨by have := HJ8.out; first | omega | exact Nat.le_refl _⟩, ⟨xH p0'.out⟩, ⟨xH p1'.out⟩, ⟨xH p2'.out⟩, ⟨yH BK423.out⟩, ⟨yH BK430.out⟩, ⟨yH BK437.out⟩, ⟨zH HB.out⟩⟩
     case rest =>
      clear HC53
      (try clear c1); (try clear c2); (try clear p2); (try clear c3); (try clear c3b0); (try clear c4); (try clear p4); (try clear q4); (try clear hx4); (try clear c5); (try clear c6); (try clear p6); (try clear c7); (try clear c8); (try clear c9); (try clear c10); (try clear c11); (try clear c12); (try clear c13); (try clear c14); (try clear c15); (try clear c16); (try clear c17); (try clear c18); (try clear c22); (try clear c23); (try clear c24); (try clear c27); (try clear c28); (try clear c30); (try clear c30b0); (try clear c30b1); (try clear c30b2); (try clear c32); (try clear c33); (try clear c33b0); (try clear c33b1); (try clear c33b2); (try clear c34); (try clear c35); (try clear c37); (try clear c40); (try clear c41); (try clear c43); (try clear p45); (try clear q45); (try clear hx45); (try clear c46); (try clear c47); (try clear c49); (try clear c52); (try clear c54); (try clear c57); (try clear c58); (try clear c59); (try clear c59b0); (try clear c59b1); (try clear c59b2); (try clear c60); (try clear c61); (try clear p64); (try clear c68); (try clear c69); (try clear c70); (try clear c72); (try clear c74); (try clear c75); (try clear c75b0); (try clear c76); (try clear c76b0); (try clear c77); (try clear c77b0); (try clear c77b1); (try clear c78); (try clear c79); (try clear c86); (try clear c87); (try clear c88); (try clear c93); (try clear c94); (try clear c101); (try clear c102); (try clear c103); (try clear c108); (try clear c109); (try clear c116); (try clear c117); (try clear c118); (try clear c122); (try clear c122b0); (try clear c123); (try clear c123b0); (try clear c124); (try clear c124b0); (try clear c124b1); (try clear c125); (try clear c126); (try clear c133); (try clear c134); (try clear c135); (try clear c138); (try clear c139); (try clear c146); (try clear c147); (try clear c148); (try clear c151); (try clear c152); (try clear c159); (try clear c160); (try clear c161); (try clear c163); (try clear c164); (try clear c171); (try clear c172); (try clear c173); (try clear hcz104_0); (try clear hcz104_1); (try clear hcz104_2); (try clear hcz105_0); (try clear hcz105_1); (try clear hcz105_2); (try clear hcz107_0); (try clear hcz107_1); (try clear hcz107_2); (try clear hcz110_0); (try clear hcz110_1); (try clear hcz110_2); (try clear hcz112_0); (try clear hcz112_1); (try clear hcz112_2); (try clear hcz119_0); (try clear hcz119_1); (try clear hcz119_2); (try clear hcz120_0); (try clear hcz120_1); (try clear hcz120_2); (try clear hcz127_0); (try clear hcz127_1); (try clear hcz127_2); (try clear hcz129_0); (try clear hcz129_1); (try clear hcz129_2); (try clear hcz136_0); (try clear hcz136_1); (try clear hcz136_2); (try clear hcz137_0); (try clear hcz137_1); (try clear hcz137_2); (try clear hcz13_0); (try clear hcz13_1); (try clear hcz13_2); (try clear hcz140_0); (try clear hcz140_1); (try clear hcz140_2); (try clear hcz142_0); (try clear hcz142_1); (try clear hcz142_2); (try clear hcz149_0); (try clear hcz149_1); (try clear hcz149_2); (try clear hcz150_0); (try clear hcz150_1); (try clear hcz150_2); (try clear hcz153_0); (try clear hcz153_1); (try clear hcz153_2); (try clear hcz155_0); (try clear hcz155_1); (try clear hcz155_2); (try clear hcz162_0); (try clear hcz162_1); (try clear hcz162_2); (try clear hcz165_0); (try clear hcz165_1); (try clear hcz165_2); (try clear hcz167_0); (try clear hcz167_1); (try clear hcz167_2); (try clear hcz174_0); (try clear hcz174_1); (try clear hcz174_2); (try clear hcz18_0); (try clear hcz18_1); (try clear hcz18_2); (try clear hcz19_0); (try clear hcz19_1); (try clear hcz19_2); (try clear hcz25_0); (try clear hcz25_1); (try clear hcz25_2); (try clear hcz26_0); (try clear hcz26_1); (try clear hcz26_2); (try clear hcz28_0); (try clear hcz28_1); (try clear hcz28_2); (try clear hcz36_0); (try clear hcz36_1); (try clear hcz36_2); (try clear hcz38_0); (try clear hcz38_1); (try clear hcz38_2); (try clear hcz42_0); (try clear hcz42_1); (try clear hcz42_2); (try clear hcz44_0); (try clear hcz44_1); (try clear hcz44_2); (try clear hcz48_0); (try clear hcz48_1); (try clear hcz48_2); (try clear hcz50_0); (try clear hcz50_1); (try clear hcz50_2); (try clear hcz62_0); (try clear hcz62_1); (try clear hcz62_2); (try clear hcz64_0); (try clear hcz64_1); (try clear hcz64_2); (try clear hcz71_0); (try clear hcz71_1); (try clear hcz71_2); (try clear hcz80_0); (try clear hcz80_1); (try clear hcz80_2); (try clear hcz82_0); (try clear hcz82_1); (try clear hcz82_2); (try clear hcz89_0); (try clear hcz89_1); (try clear hcz89_2); (try clear hcz90_0); (try clear hcz90_1); (try clear hcz90_2); (try clear hcz92_0); (try clear hcz92_1); (try clear hcz92_2); (try clear hcz95_0); (try clear hcz95_1); (try clear hcz95_2); (try clear hcz97_0); (try clear hcz97_1); (try clear hcz97_2); (try clear hfz104_0); (try clear hfz104_1); (try clear hfz104_2); (try clear hfz105_0); (try clear hfz105_1); (try clear hfz105_2); (try clear hfz107_0); (try clear hfz107_1); (try clear hfz107_2); (try clear hfz110_0); (try clear hfz110_1); (try clear hfz110_2); (try clear hfz112_0); (try clear hfz112_1); (try clear hfz112_2); (try clear hfz119_0); (try clear hfz119_1); (try clear hfz119_2); (try clear hfz120_0); (try clear hfz120_1); (try clear hfz120_2); (try clear hfz127_0); (try clear hfz127_1); (try clear hfz127_2); (try clear hfz129_0); (try clear hfz129_1); (try clear hfz129_2); (try clear hfz136_0); (try clear hfz136_1); (try clear hfz136_2); (try clear hfz137_0); (try clear hfz137_1); (try clear hfz137_2); (try clear hfz13_0); (try clear hfz13_1); (try clear hfz13_2); (try clear hfz140_0); (try clear hfz140_1); (try clear hfz140_2); (try clear hfz142_0); (try clear hfz142_1); (try clear hfz142_2); (try clear hfz149_0); (try clear hfz149_1); (try clear hfz149_2); (try clear hfz150_0); (try clear hfz150_1); (try clear hfz150_2); (try clear hfz153_0); (try clear hfz153_1); (try clear hfz153_2); (try clear hfz155_0); (try clear hfz155_1); (try clear hfz155_2); (try clear hfz162_0); (try clear hfz162_1); (try clear hfz162_2); (try clear hfz165_0); (try clear hfz165_1); (try clear hfz165_2); (try clear hfz167_0); (try clear hfz167_1); (try clear hfz167_2); (try clear hfz174_0); (try clear hfz174_1); (try clear hfz174_2); (try clear hfz18_0); (try clear hfz18_1); (try clear hfz18_2); (try clear hfz19_0); (try clear hfz19_1); (try clear hfz19_2); (try clear hfz25_0); (try clear hfz25_1); (try clear hfz25_2); (try clear hfz26_0); (try clear hfz26_1); (try clear hfz26_2); (try clear hfz28_0); (try clear hfz28_1); (try clear hfz28_2); (try clear hfz36_0); (try clear hfz36_1); (try clear hfz36_2); (try clear hfz38_0); (try clear hfz38_1); (try clear hfz38_2); (try clear hfz42_0); (try clear hfz42_1); (try clear hfz42_2); (try clear hfz44_0); (try clear hfz44_1); (try clear hfz44_2); (try clear hfz48_0); (try clear hfz48_1); (try clear hfz48_2); (try clear hfz50_0); (try clear hfz50_1); (try clear hfz50_2); (try clear hfz62_0); (try clear hfz62_1); (try clear hfz62_2); (try clear hfz64_0); (try clear hfz64_1); (try clear hfz64_2); (try clear hfz71_0); (try clear hfz71_1); (try clear hfz71_2); (try clear hfz80_0); (try clear hfz80_1); (try clear hfz80_2); (try clear hfz82_0); (try clear hfz82_1); (try clear hfz82_2); (try clear hfz89_0); (try clear hfz89_1); (try clear hfz89_2); (try clear hfz90_0); (try clear hfz90_1); (try clear hfz90_2); (try clear hfz92_0); (try clear hfz92_1); (try clear hfz92_2); (try clear hfz95_0); (try clear hfz95_1); (try clear hfz95_2); (try clear hfz97_0); (try clear hfz97_1); (try clear hfz97_2); (try clear hx453_0); (try clear hx454_0); (try clear p2); (try clear p453); (try clear p454); (try clear p6); (try clear q453); (try clear q454)
      obtain ⟨kq, HA, HJ52, p0', p1', p2', BK423, BK430, BK437, HB⟩ := hcut
      cases kq with
      | zero => exact absurd HA.out (fun h_ => by change none = some _ at h_; cases h_)
      | succ kj52 =>
       have H := HA.out
       clear HA
       simp only [laws_FnUpdated.j1] at H
       replace H := Option.bind_eq_some_iff.mp H
       obtain ⟨⟨t455, t458, t459⟩, A1750, H⟩ := H
       replace H : ((impl_FindWrong.f kj52 t455 t458 t459).bind fun bt461 => ((spec_FindWrong.f kj52 t455 t458 t459).bind fun bt463 => (if (bt461.2 != bt463.2) = true then (laws_FnUpdated.j2 kj52 bt461.1 bt461.2 true t455 t458 t459) else (laws_FnUpdated.j2 kj52 bt461.1 bt461.2 (bt461.1 != bt463.1) t455 t458 t459)))) = some r := H
       have A175 := aM A1750
       clear A1750
       replace H := Option.bind_eq_some_iff.mp H
       obtain ⟨⟨t461, t462⟩, A1760, H⟩ := H
       replace H : ((spec_FindWrong.f kj52 t455 t458 t459).bind fun bt463 => (if (t462 != bt463.2) = true then (laws_FnUpdated.j2 kj52 t461 t462 true t455 t458 t459) else (laws_FnUpdated.j2 kj52 t461 t462 (t461 != bt463.1) t455 t458 t459))) = some r := H
       have A176 := aM A1760
       clear A1760
       replace H := Option.bind_eq_some_iff.mp H
       obtain ⟨⟨t463, t464⟩, A1770, H⟩ := H
       replace H : (if (t462 != t464) = true then (laws_FnUpdated.j2 kj52 t461 t462 true t455 t458 t459) else (laws_FnUpdated.j2 kj52 t461 t462 (t461 != t463) t455 t458 t459)) = some r := H
       have A177 := aM A1770
       clear A1770
       have HC178 := aM H
       clear H
       go_upto_region 18 with (first | ((with_reducible refine gate_callee (f := 37) rfl ?_); refine goesL_ (some 126) rfl rfl Try.func37 (by kernel_rfl) rfl #[.slice A1 l1.length c1] rfl (by (try simp only [List.map_toArray, List.map_cons, List.map_nil]); first | done | rfl | (simp only [List.length_drop, List.length_take]; rfl)) ?_; (with_reducible refine (spec_DrawFindWrong.calls kj52 _ _ l1 t455 t458 t459 _ ?side1 ?side2 A175.out).mono ?_); (case side1 => exact cK HR1.out HB.out); (case side2 => exact HC1.out); rintro e w179 ⟨v456, rfl, ho0, hb⟩; refine ⟨_, rfl, ?_⟩; have HO457 := aM (xL (Kd.R_new' (Kd.R_new' (Kd.R_new' ho0 (Kd.R_lt (xH p0'.out))) (Kd.R_lt (xH p1'.out))) (Kd.R_lt (xH p2'.out))) (zZ (zH HB.out))); replace p0' := aM (Kd.R_elder' (xH p0'.out) (Kd.R_base ho0) hb); replace p1' := aM (Kd.R_elder' (xH p1'.out) (Kd.R_base ho0) hb); replace p2' := aM (Kd.R_elder' (xH p2'.out) (Kd.R_base ho0) hb); replace BK423 := yK BK423.out hb; replace BK430 := yK BK430.out hb; replace BK437 := yK BK437.out hb; replace HB := aM (zT (zH HB.out) hb); (try clear hb); (try clear ho0)) | ((with_reducible refine gate_dst (N := 20) rfl ?_); refine box_event ?hg (N := 20) ?hd (cs := #[.slice none 0 0, .string (⟨#[]⟩ : ByteArray), .string (⟨#[]⟩ : ByteArray)]) (t := 27) ?hr ?_; (case hd => rfl); (case hg => rfl); (case hr => first | (go_simp; done) | (go_simp; rfl)); intro gb460 hg w180 hbox hb; replace p0' := xK p0'.out hb; replace p1' := xK p1'.out hb; replace p2' := xK p2'.out hb; replace HO457 := xK HO457.out hb; have BK460 := aM (hbox); have GW460 := aM ((by rw [hg]; exact (zZ (zH HB.out)) : w.heap.size ≤ gb460)); have GE460 := aM ((by rw [hg]; exact (zZ (zH HB.out)) : w.heap.size ≤ gb460)); replace HB := aM (zT (zH HB.out) hb); have NB423_460 := nL BK423.out hg; have NB460_423 := nR BK423.out hg; replace BK423 := yK BK423.out hb; have NB430_460 := nL BK430.out hg; have NB460_430 := nR BK430.out hg; replace BK430 := yK BK430.out hb; have NB437_460 := nL BK437.out hg; have NB460_437 := nR BK437.out hg; replace BK437 := yK BK437.out hb; clear hb hbox hg; obtain ⟨Ao181, co181, eo181⟩ := Kd.R_slice HO457.out; subst eo181; have hnb182 := NB460_423.out; have hnc182 := NB423_460.out; have hnb183 := NB460_430.out; have hnc183 := NB430_460.out; have hnb184 := NB460_437.out; have hnc184 := NB437_460.out; have hcz185_0 : w180.cell? ⟨gb460, 0, none⟩ = some (.slice none 0 0) := yc BK460.out 0; have hcz185_1 : w180.cell? ⟨gb460, 1, none⟩ = some (.string (⟨#[]⟩ : ByteArray)) := yc BK460.out 1; have hcz185_2 : w180.cell? ⟨gb460, 2, none⟩ = some (.string (⟨#[]⟩ : ByteArray)) := yc BK460.out 2; have hfz185_0 := yZ BK460.out 0; have hfz185_1 := yZ BK460.out 1; have hfz185_2 := yZ BK460.out 2) | ((with_reducible refine gate_callee (f := 30) rfl ?_); refine goesL_ (some 129) rfl rfl Try.func30 (by kernel_rfl) rfl #[.agg #[.slice Ao181 t455.length co181, .string t458, .string t459]] rfl (by (try simp only [List.map_toArray, List.map_cons, List.map_nil]); first | done | rfl | (simp only [List.length_drop, List.length_take]; rfl)) ?_; (with_reducible refine (impl_FindWrong.calls kj52 _ _ t455 t458 t459 t461 t462 _ ?side1 ?side2 A176.out).mono ?_); (case side1 => exact rC (n := t455.length) (c := co181) ((x3 HO457.out BK460.out (by decide) (.slice Ao181 t455.length co181) (.string t458) (.string t459)))); (case side2 => exact (Kd.R_reads' HO457.out).2.1); rintro e w186 ⟨rfl, hb⟩; refine ⟨_, rfl, ?_⟩; replace p0' := aM (xB (xH ((x3 p0'.out BK460.out (by decide) (.slice Ao181 t455.length co181) (.string t458) (.string t459)))) hb); replace p1' := aM (xB (xH ((x3 p1'.out BK460.out (by decide) (.slice Ao181 t455.length co181) (.string t458) (.string t459)))) hb); replace p2' := aM (xB (xH ((x3 p2'.out BK460.out (by decide) (.slice Ao181 t455.length co181) (.string t458) (.string t459)))) hb); replace HO457 := aM (xB (xH ((x3 HO457.out BK460.out (by decide) (.slice Ao181 t455.length co181) (.string t458) (.string t459)))) hb); replace BK423 := aM (yB (g := gb423) (o := .cells #[.slice Ao12 t416.length co12, .string t419, .string t420] 27 (0, 0)) (by (with_reducible repeat (first | refine yN ?_ _ | refine yD ?_ | refine yA ?_ _)); refine yF ?_ NB423_460.out _; (with_reducible repeat (first | refine yN ?_ _ | refine yD ?_ | refine yA ?_ _)); refine yF ?_ NB423_460.out _; (with_reducible repeat (first | refine yN ?_ _ | refine yD ?_ | refine yA ?_ _)); refine yF ?_ NB423_460.out _; (with_reducible repeat (first | refine yN ?_ _ | refine yD ?_ | refine yA ?_ _)); exact BK423.out) hb); replace BK430 := aM (yB (g := gb430) (o := .cells #[.slice Ao16 t424.length co16, .string t427, .string t428] 27 (0, 0)) (by (with_reducible repeat (first | refine yN ?_ _ | refine yD ?_ | refine yA ?_ _)); refine yF ?_ NB430_460.out _; (with_reducible repeat (first | refine yN ?_ _ | refine yD ?_ | refine yA ?_ _)); refine yF ?_ NB430_460.out _; (with_reducible repeat (first | refine yN ?_ _ | refine yD ?_ | refine yA ?_ _)); refine yF ?_ NB430_460.out _; (with_reducible repeat (first | refine yN ?_ _ | refine yD ?_ | refine yA ?_ _)); exact BK430.out) hb); replace BK437 := aM (yB (g := gb437) (o := .cells #[.slice Ao22 t431.length co22, .string t434, .string t435] 27 (0, 0)) (by (with_reducible repeat (first | refine yN ?_ _ | refine yD ?_ | refine yA ?_ _)); refine yF ?_ NB437_460.out _; (with_reducible repeat (first | refine yN ?_ _ | refine yD ?_ | refine yA ?_ _)); refine yF ?_ NB437_460.out _; (with_reducible repeat (first | refine yN ?_ _ | refine yD ?_ | refine yA ?_ _)); refine yF ?_ NB437_460.out _; (with_reducible repeat (first | refine yN ?_ _ | refine yD ?_ | refine yA ?_ _)); exact BK437.out) hb); replace BK460 := aM (yB (g := gb460) (o := .cells #[.slice Ao181 t455.length co181, .string t458, .string t459] 27 (0, 0)) (by (with_reducible repeat (first | refine yN ?_ _ | refine yD ?_ | refine yA ?_ _)); refine yP (cs := #[.slice Ao181 t455.length co181, .string t458, .string (⟨#[]⟩ : ByteArray)]) ?_ 2 _ rfl; (with_reducible repeat (first | refine yN ?_ _ | refine yD ?_ | refine yA ?_ _)); refine yP (cs := #[.slice Ao181 t455.length co181, .string (⟨#[]⟩ : ByteArray), .string (⟨#[]⟩ : ByteArray)]) ?_ 1 _ rfl; (with_reducible repeat (first | refine yN ?_ _ | refine yD ?_ | refine yA ?_ _)); refine yP (cs := #[.slice none 0 0, .string (⟨#[]⟩ : ByteArray), .string (⟨#[]⟩ : ByteArray)]) ?_ 0 _ rfl; (with_reducible repeat (first | refine yN ?_ _ | refine yD ?_ | refine yA ?_ _)); exact BK460.out) hb); replace HB := aM (zT (zH HB.out) hb); (try clear hb); have hcz187_0 : w186.cell? ⟨gb460, 0, none⟩ = some (.slice Ao181 t455.length co181) := yc BK460.out 0; have hcz187_1 : w186.cell? ⟨gb460, 1, none⟩ = some (.string t458) := yc BK460.out 1; have hcz187_2 : w186.cell? ⟨gb460, 2, none⟩ = some (.string t459) := yc BK460.out 2; have hfz187_0 := yZ BK460.out 0; have hfz187_1 := yZ BK460.out 1; have hfz187_2 := yZ BK460.out 2) | ((with_reducible refine gate_callee (f := 29) rfl ?_); refine goesL_ (some 134) rfl rfl Try.func29 (by kernel_rfl) rfl #[.agg #[.slice Ao181 t455.length co181, .string t458, .string t459]] rfl (by (try simp only [List.map_toArray, List.map_cons, List.map_nil]); first | done | rfl | (simp only [List.length_drop, List.length_take]; rfl)) ?_; (with_reducible refine (spec_FindWrong.calls kj52 _ _ t455 t458 t459 t463 t464 _ ?side1 ?side2 A177.out).mono ?_); (case side1 => repeat (first | exact (Kd.R_reads' HO457.out).2.2 | (with_reducible refine cA ?_ _) | (with_reducible refine cN ?_ _) | (with_reducible refine cD ?_))); (case side2 => exact (Kd.R_reads' HO457.out).2.1); rintro e w188 ⟨rfl, hb⟩; refine ⟨_, rfl, ?_⟩; replace p0' := xK p0'.out hb; replace p1' := xK p1'.out hb; replace p2' := xK p2'.out hb; replace HO457 := xK HO457.out hb; replace BK423 := yK BK423.out hb; replace BK430 := yK BK430.out hb; replace BK437 := yK BK437.out hb; replace BK460 := yK BK460.out hb; replace HB := aM (zT (zH HB.out) hb); (try clear hb)))
       (try simp only [Act.put, qA, qB, qC])
       go_cut [144] (fun v144 wc => ∃ (kq : Nat) (x144_177 : Bool), v144 = .bool x144_177 ∧ Aside0 (laws_FnUpdated.j2 kq t461 t462 x144_177 t455 t458 t459 = some r) ∧ Aside0 (kq ≤ kj52) ∧ Aside0 (Kd.R Kd.string 9 wc w.heap.size (fun k_ => some k_ ≠ oB Ao16 t424.length co16 ∧ some k_ ≠ oB Ao22 t431.length co22 ∧ some k_ ≠ oB Ao181 t455.length co181) (.slice Ao12 t416.length co12) t416) ∧ Aside0 (Kd.R Kd.string 9 wc w.heap.size (fun k_ => some k_ ≠ oB Ao12 t416.length co12 ∧ some k_ ≠ oB Ao22 t431.length co22 ∧ some k_ ≠ oB Ao181 t455.length co181) (.slice Ao16 t424.length co16) t424) ∧ Aside0 (Kd.R Kd.string 9 wc w.heap.size (fun k_ => some k_ ≠ oB Ao12 t416.length co12 ∧ some k_ ≠ oB Ao16 t424.length co16 ∧ some k_ ≠ oB Ao181 t455.length co181) (.slice Ao22 t431.length co22) t431) ∧ Aside0 (Kd.R Kd.string 9 wc w.heap.size (fun k_ => some k_ ≠ oB Ao12 t416.length co12 ∧ some k_ ≠ oB Ao16 t424.length co16 ∧ some k_ ≠ oB Ao22 t431.length co22) (.slice Ao181 t455.length co181) t455) ∧ Aside0 (wc.heap[gb423]? = some (.cells #[(.slice Ao12 t416.length co12), .string t419, .string t420] 27 (0, 0))) ∧ Aside0 (wc.heap[gb430]? = some (.cells #[(.slice Ao16 t424.length co16), .string t427, .string t428] 27 (0, 0))) ∧ Aside0 (wc.heap[gb437]? = some (.cells #[(.slice Ao22 t431.length co22), .string t434, .string t435] 27 (0, 0))) ∧ Aside0 (wc.heap[gb460]? = some (.cells #[(.slice Ao181 t455.length co181), .string t458, .string t459] 27 (0, 0))) ∧ Aside0 (Below w.heap.size w wc))
       case first =>
        have H := HC178.out
        clear HC178
        by_cases c189 : (t462 != t464) = true
        ·rw [if_pos c189] at H
         have c189b0 : (t462 != t464) = true := c189
         (try (have c189b1 : decide (t462 = t464) = false := by simpa using c189))
         (try (have c189b2 : (t462 == t464) = false := by simpa using c189))
         (try (have c189b3 : ¬ (t462 = t464) := by simpa using c189))
         clear c189
         (first | rw [c189b0] | (simp only [i64_w, i32_w]; rw [c189b0]) | skip)
         have H' := aM H
         clear H
         go_wp2
         go_meet
         case rel => exact ⟨_, (true), (by first | rfl | (simp; done) | (simp [*]; done)), H', ⟨by have := HJ8.out; have := HJ52.out; first | omega | exact Nat.le_refl _⟩, ⟨xH (xM p0'.out (fun _ hk => ⟨hk.1.1, ⟨hk.1.2, hk.2⟩⟩))⟩, ⟨xH (xM p1'.out (fun _ hk => ⟨hk.1.1, ⟨hk.1.2, hk.2⟩⟩))⟩, ⟨xH (xM p2'.out (fun _ hk => ⟨hk.1.1, ⟨hk.1.2, hk.2⟩⟩))⟩, ⟨xH (xM HO457.out (fun _ hk => ⟨hk.1.1.2, ⟨hk.1.2, hk.2⟩⟩))⟩, ⟨yH BK423.out⟩, ⟨yH BK430.out⟩, ⟨yH BK437.out⟩, ⟨yH BK460.out⟩, ⟨zH HB.out⟩⟩
        ·rw [if_neg c189] at H
         have c189b0 : (t462 != t464) = false := by simpa using c189
         (try (have c189b1 : decide (t462 = t464) = true := by simpa using c189))
         (try (have c189b2 : (t462 == t464) = true := by simpa using c189))
         clear c189
         (first | rw [c189b0] | (simp only [i64_w, i32_w]; rw [c189b0]) | skip)
         have H' := aM H
         clear H
         go_wp2
         go_meet
         case rel => exact ⟨_, ((t461 != t463)), (by first | rfl | (simp; done) | (simp [*]; done)), H', ⟨by have := HJ8.out; have := HJ52.out; first | omega | exact Nat.le_refl _⟩, ⟨xH (xM p0'.out (fun _ hk => ⟨hk.1.1, ⟨hk.1.2, hk.2⟩⟩))⟩, ⟨xH (xM p1'.out (fun _ hk => ⟨hk.1.1, ⟨hk.1.2, hk.2⟩⟩))⟩, ⟨xH (xM p2'.out (fun _ hk => ⟨hk.1.1, ⟨hk.1.2, hk.2⟩⟩))⟩, ⟨xH (xM HO457.out (fun _ hk => ⟨hk.1.1.2, ⟨hk.1.2, hk.2⟩⟩))⟩, ⟨yH BK423.out⟩, ⟨yH BK430.out⟩, ⟨yH BK437.out⟩, ⟨yH BK460.out⟩, ⟨zH HB.out⟩⟩
       case rest =>
        clear HC178
        (try clear c1); (try clear c2); (try clear p2); (try clear c3); (try clear c3b0); (try clear c4); (try clear p4); (try clear q4); (try clear hx4); (try clear c5); (try clear c6); (try clear p6); (try clear c7); (try clear c8); (try clear c9); (try clear c10); (try clear c11); (try clear c12); (try clear c13); (try clear c14); (try clear c15); (try clear c16); (try clear c17); (try clear c18); (try clear c22); (try clear c23); (try clear c24); (try clear c27); (try clear c28); (try clear c29); (try clear c30); (try clear c30b0); (try clear c30b1); (try clear c30b2); (try clear c32); (try clear c33); (try clear c33b0); (try clear c33b1); (try clear c33b2); (try clear c34); (try clear c35); (try clear c37); (try clear c40); (try clear c41); (try clear c43); (try clear p45); (try clear q45); (try clear hx45); (try clear c46); (try clear c47); (try clear c49); (try clear c52); (try clear c54); (try clear c57); (try clear c58); (try clear c59); (try clear c59b0); (try clear c59b1); (try clear c59b2); (try clear c60); (try clear c61); (try clear p64); (try clear c68); (try clear c69); (try clear c70); (try clear c72); (try clear c74); (try clear c75); (try clear c75b0); (try clear c76); (try clear c76b0); (try clear c77); (try clear c77b0); (try clear c77b1); (try clear c78); (try clear c79); (try clear c86); (try clear c87); (try clear c88); (try clear c93); (try clear c94); (try clear c101); (try clear c102); (try clear c103); (try clear c108); (try clear c109); (try clear c116); (try clear c117); (try clear c118); (try clear c122); (try clear c122b0); (try clear c123); (try clear c123b0); (try clear c124); (try clear c124b0); (try clear c124b1); (try clear c125); (try clear c126); (try clear c133); (try clear c134); (try clear c135); (try clear c138); (try clear c139); (try clear c146); (try clear c147); (try clear c148); (try clear c151); (try clear c152); (try clear c159); (try clear c160); (try clear c161); (try clear c163); (try clear c164); (try clear c171); (try clear c172); (try clear c173); (try clear c182); (try clear c183); (try clear c184); (try clear c189); (try clear c189b0); (try clear c189b1); (try clear c189b2); (try clear hcz104_0); (try clear hcz104_1); (try clear hcz104_2); (try clear hcz105_0); (try clear hcz105_1); (try clear hcz105_2); (try clear hcz107_0); (try clear hcz107_1); (try clear hcz107_2); (try clear hcz110_0); (try clear hcz110_1); (try clear hcz110_2); (try clear hcz112_0); (try clear hcz112_1); (try clear hcz112_2); (try clear hcz119_0); (try clear hcz119_1); (try clear hcz119_2); (try clear hcz120_0); (try clear hcz120_1); (try clear hcz120_2); (try clear hcz127_0); (try clear hcz127_1); (try clear hcz127_2); (try clear hcz129_0); (try clear hcz129_1); (try clear hcz129_2); (try clear hcz136_0); (try clear hcz136_1); (try clear hcz136_2); (try clear hcz137_0); (try clear hcz137_1); (try clear hcz137_2); (try clear hcz13_0); (try clear hcz13_1); (try clear hcz13_2); (try clear hcz140_0); (try clear hcz140_1); (try clear hcz140_2); (try clear hcz142_0); (try clear hcz142_1); (try clear hcz142_2); (try clear hcz149_0); (try clear hcz149_1); (try clear hcz149_2); (try clear hcz150_0); (try clear hcz150_1); (try clear hcz150_2); (try clear hcz153_0); (try clear hcz153_1); (try clear hcz153_2); (try clear hcz155_0); (try clear hcz155_1); (try clear hcz155_2); (try clear hcz162_0); (try clear hcz162_1); (try clear hcz162_2); (try clear hcz165_0); (try clear hcz165_1); (try clear hcz165_2); (try clear hcz167_0); (try clear hcz167_1); (try clear hcz167_2); (try clear hcz174_0); (try clear hcz174_1); (try clear hcz174_2); (try clear hcz185_0); (try clear hcz185_1); (try clear hcz185_2); (try clear hcz187_0); (try clear hcz187_1); (try clear hcz187_2); (try clear hcz18_0); (try clear hcz18_1); (try clear hcz18_2); (try clear hcz19_0); (try clear hcz19_1); (try clear hcz19_2); (try clear hcz25_0); (try clear hcz25_1); (try clear hcz25_2); (try clear hcz26_0); (try clear hcz26_1); (try clear hcz26_2); (try clear hcz28_0); (try clear hcz28_1); (try clear hcz28_2); (try clear hcz36_0); (try clear hcz36_1); (try clear hcz36_2); (try clear hcz38_0); (try clear hcz38_1); (try clear hcz38_2); (try clear hcz42_0); (try clear hcz42_1); (try clear hcz42_2); (try clear hcz44_0); (try clear hcz44_1); (try clear hcz44_2); (try clear hcz48_0); (try clear hcz48_1); (try clear hcz48_2); (try clear hcz50_0); (try clear hcz50_1); (try clear hcz50_2); (try clear hcz62_0); (try clear hcz62_1); (try clear hcz62_2); (try clear hcz64_0); (try clear hcz64_1); (try clear hcz64_2); (try clear hcz71_0); (try clear hcz71_1); (try clear hcz71_2); (try clear hcz80_0); (try clear hcz80_1); (try clear hcz80_2); (try clear hcz82_0); (try clear hcz82_1); (try clear hcz82_2); (try clear hcz89_0); (try clear hcz89_1); (try clear hcz89_2); (try clear hcz90_0); (try clear hcz90_1); (try clear hcz90_2); (try clear hcz92_0); (try clear hcz92_1); (try clear hcz92_2); (try clear hcz95_0); (try clear hcz95_1); (try clear hcz95_2); (try clear hcz97_0); (try clear hcz97_1); (try clear hcz97_2); (try clear hfz104_0); (try clear hfz104_1); (try clear hfz104_2); (try clear hfz105_0); (try clear hfz105_1); (try clear hfz105_2); (try clear hfz107_0); (try clear hfz107_1); (try clear hfz107_2); (try clear hfz110_0); (try clear hfz110_1); (try clear hfz110_2); (try clear hfz112_0); (try clear hfz112_1); (try clear hfz112_2); (try clear hfz119_0); (try clear hfz119_1); (try clear hfz119_2); (try clear hfz120_0); (try clear hfz120_1); (try clear hfz120_2); (try clear hfz127_0); (try clear hfz127_1); (try clear hfz127_2); (try clear hfz129_0); (try clear hfz129_1); (try clear hfz129_2); (try clear hfz136_0); (try clear hfz136_1); (try clear hfz136_2); (try clear hfz137_0); (try clear hfz137_1); (try clear hfz137_2); (try clear hfz13_0); (try clear hfz13_1); (try clear hfz13_2); (try clear hfz140_0); (try clear hfz140_1); (try clear hfz140_2); (try clear hfz142_0); (try clear hfz142_1); (try clear hfz142_2); (try clear hfz149_0); (try clear hfz149_1); (try clear hfz149_2); (try clear hfz150_0); (try clear hfz150_1); (try clear hfz150_2); (try clear hfz153_0); (try clear hfz153_1); (try clear hfz153_2); (try clear hfz155_0); (try clear hfz155_1); (try clear hfz155_2); (try clear hfz162_0); (try clear hfz162_1); (try clear hfz162_2); (try clear hfz165_0); (try clear hfz165_1); (try clear hfz165_2); (try clear hfz167_0); (try clear hfz167_1); (try clear hfz167_2); (try clear hfz174_0); (try clear hfz174_1); (try clear hfz174_2); (try clear hfz185_0); (try clear hfz185_1); (try clear hfz185_2); (try clear hfz187_0); (try clear hfz187_1); (try clear hfz187_2); (try clear hfz18_0); (try clear hfz18_1); (try clear hfz18_2); (try clear hfz19_0); (try clear hfz19_1); (try clear hfz19_2); (try clear hfz25_0); (try clear hfz25_1); (try clear hfz25_2); (try clear hfz26_0); (try clear hfz26_1); (try clear hfz26_2); (try clear hfz28_0); (try clear hfz28_1); (try clear hfz28_2); (try clear hfz36_0); (try clear hfz36_1); (try clear hfz36_2); (try clear hfz38_0); (try clear hfz38_1); (try clear hfz38_2); (try clear hfz42_0); (try clear hfz42_1); (try clear hfz42_2); (try clear hfz44_0); (try clear hfz44_1); (try clear hfz44_2); (try clear hfz48_0); (try clear hfz48_1); (try clear hfz48_2); (try clear hfz50_0); (try clear hfz50_1); (try clear hfz50_2); (try clear hfz62_0); (try clear hfz62_1); (try clear hfz62_2); (try clear hfz64_0); (try clear hfz64_1); (try clear hfz64_2); (try clear hfz71_0); (try clear hfz71_1); (try clear hfz71_2); (try clear hfz80_0); (try clear hfz80_1); (try clear hfz80_2); (try clear hfz82_0); (try clear hfz82_1); (try clear hfz82_2); (try clear hfz89_0); (try clear hfz89_1); (try clear hfz89_2); (try clear hfz90_0); (try clear hfz90_1); (try clear hfz90_2); (try clear hfz92_0); (try clear hfz92_1); (try clear hfz92_2); (try clear hfz95_0); (try clear hfz95_1); (try clear hfz95_2); (try clear hfz97_0); (try clear hfz97_1); (try clear hfz97_2); (try clear hx453_0); (try clear hx454_0); (try clear p2); (try clear p4); (try clear p45); (try clear p453); (try clear p454); (try clear p6); (try clear p64); (try clear q4); (try clear q45); (try clear q453); (try clear q454)
        obtain ⟨kq, x144_177, rfl, HA, HJ177, p0', p1', p2', p3', BK423, BK430, BK437, BK460, HB⟩ := hcut
        cases kq with
        | zero => exact absurd HA.out (fun h_ => by change none = some _ at h_; cases h_)
        | succ kj177 =>
         have H := HA.out
         clear HA
         simp only [laws_FnUpdated.j2] at H
         by_cases c190 : x144_177 = true
         ·subst c190
          have H1 : (some false) = some r := by rw [if_pos rfl] at H; exact H
          clear H
          have H := H1
          clear H1
          exact absurd (H.trans (congrArg some HR_.out)) (by decide)
         ·replace c190 := Bool.eq_false_iff.mpr c190
          subst c190
          have H1 : (if t462 = true then ((impl_RecoverOne.f kj177 t455 t458 t459 t461).bind fun bt465 => ((impl_CheckStripe.f kj177 bt465.1 bt465.2.1 bt465.2.2.1).bind fun bt472 => (if bt465.2.2.2 = true then (if bt472.2 = true then (some bt472.1) else (some false)) else (some false)))) else (some (t461 == 0))) = some r := by rw [if_neg (show ¬ (false = true) by decide)] at H; exact H
          clear H
          have H := H1
          clear H1
          by_cases c191 : t462 = true
          ·subst c191
           have H1 : ((impl_RecoverOne.f kj177 t455 t458 t459 t461).bind fun bt465 => ((impl_CheckStripe.f kj177 bt465.1 bt465.2.1 bt465.2.2.1).bind fun bt472 => (if bt465.2.2.2 = true then (if bt472.2 = true then (some bt472.1) else (some false)) else (some false)))) = some r := by rw [if_pos rfl] at H; exact H
           clear H
           have H := H1
           clear H1
           replace H := Option.bind_eq_some_iff.mp H
           obtain ⟨⟨t465, t468, t469, t470⟩, A1920, H⟩ := H
           replace H : ((impl_CheckStripe.f kj177 t465 t468 t469).bind fun bt472 => (if t470 = true then (if bt472.2 = true then (some bt472.1) else (some false)) else (some false))) = some r := H
           have A192 := aM A1920
           clear A1920
           replace H := Option.bind_eq_some_iff.mp H
           obtain ⟨⟨t472, t473⟩, A1930, H⟩ := H
           replace H : (if t470 = true then (if t473 = true then (some t472) else (some false)) else (some false)) = some r := H
           have A193 := aM A1930
           clear A1930
           by_cases c194 : t470 = true
           ·subst c194
            have H1 : (if t473 = true then (some t472) else (some false)) = some r := by rw [if_pos rfl] at H; exact H
            clear H
            have H := H1
            clear H1
            by_cases c195 : t473 = true
            ·subst c195
             have H1 : (some t472) = some r := by rw [if_pos rfl] at H; exact H
             clear H
             have H := H1
             clear H1
             obtain rfl := Option.some.inj H
             have hnb196 := NB460_423.out
             have hnc196 := NB423_460.out
             have hnb197 := NB460_430.out
             have hnc197 := NB430_460.out
             have hnb198 := NB460_437.out
             have hnc198 := NB437_460.out
             have hcz199_0 : wc.cell? ⟨gb460, 0, none⟩ = some (.slice Ao181 t455.length co181) := yc BK460.out 0
             have hcz199_1 : wc.cell? ⟨gb460, 1, none⟩ = some (.string t458) := yc BK460.out 1
             have hcz199_2 : wc.cell? ⟨gb460, 2, none⟩ = some (.string t459) := yc BK460.out 2
             have hfz199_0 := yZ BK460.out 0
             have hfz199_1 := yZ BK460.out 1
             have hfz199_2 := yZ BK460.out 2
             go_wp2_with (first | ((with_reducible refine gate_callee (f := 32) rfl ?_); refine goesL_ (some 152) rfl rfl Try.func32 (by kernel_rfl) rfl #[.agg #[.slice Ao181 t455.length co181, .string t458, .string t459], .int .i64 t461] rfl (by (try simp only [List.map_toArray, List.map_cons, List.map_nil]); first | done | rfl | (simp only [List.length_drop, List.length_take]; rfl)) ?_; (with_reducible refine (impl_RecoverOne.calls kj177 _ _ t455 t458 t459 t461 t465 t468 t469 true _ ?side1 ?side2 A192.out).mono ?_); (case side1 => repeat (first | exact (Kd.R_reads' p3'.out).2.2 | (with_reducible refine cA ?_ _) | (with_reducible refine cN ?_ _) | (with_reducible refine cD ?_))); (case side2 => exact (Kd.R_reads' p3'.out).2.1); rintro e w200 ⟨v466, rfl, ho0, hb⟩; refine ⟨_, rfl, ?_⟩; have HO467 := aM (xL (Kd.R_new' (Kd.R_new' (Kd.R_new' (Kd.R_new' ho0 (Kd.R_lt (xH p0'.out))) (Kd.R_lt (xH p1'.out))) (Kd.R_lt (xH p2'.out))) (Kd.R_lt (xH p3'.out))) (zZ (zH HB.out))); replace p0' := aM (Kd.R_elder' (xH p0'.out) (Kd.R_base ho0) hb); replace p1' := aM (Kd.R_elder' (xH p1'.out) (Kd.R_base ho0) hb); replace p2' := aM (Kd.R_elder' (xH p2'.out) (Kd.R_base ho0) hb); replace p3' := aM (Kd.R_elder' (xH p3'.out) (Kd.R_base ho0) hb); replace BK423 := yK BK423.out hb; replace BK430 := yK BK430.out hb; replace BK437 := yK BK437.out hb; replace BK460 := yK BK460.out hb; replace HB := aM (zT (zH HB.out) hb); (try clear hb); (try clear ho0)) | ((with_reducible refine gate_dst (N := 25) rfl ?_); refine box_event ?hg (N := 25) ?hd (cs := #[.slice none 0 0, .string (⟨#[]⟩ : ByteArray), .string (⟨#[]⟩ : ByteArray)]) (t := 27) ?hr ?_; (case hd => rfl); (case hg => rfl); (case hr => first | (go_simp; done) | (go_simp; rfl)); intro gb471 hg w201 hbox hb; replace p0' := xK p0'.out hb; replace p1' := xK p1'.out hb; replace p2' := xK p2'.out hb; replace p3' := xK p3'.out hb; replace HO467 := xK HO467.out hb; have BK471 := aM (hbox); have GW471 := aM ((by rw [hg]; exact (zZ (zH HB.out)) : w.heap.size ≤ gb471)); have GE471 := aM ((by rw [hg]; exact (zZ (zH HB.out)) : w.heap.size ≤ gb471)); replace HB := aM (zT (zH HB.out) hb); have NB423_471 := nL BK423.out hg; have NB471_423 := nR BK423.out hg; replace BK423 := yK BK423.out hb; have NB430_471 := nL BK430.out hg; have NB471_430 := nR BK430.out hg; replace BK430 := yK BK430.out hb; have NB437_471 := nL BK437.out hg; have NB471_437 := nR BK437.out hg; replace BK437 := yK BK437.out hb; have NB460_471 := nL BK460.out hg; have NB471_460 := nR BK460.out hg; replace BK460 := yK BK460.out hb; clear hb hbox hg; obtain ⟨Ao202, co202, eo202⟩ := Kd.R_slice HO467.out; subst eo202; have hnb203 := NB471_423.out; have hnc203 := NB423_471.out; have hnb204 := NB471_430.out; have hnc204 := NB430_471.out; have hnb205 := NB471_437.out; have hnc205 := NB437_471.out; have hnb206 := NB471_460.out; have hnc206 := NB460_471.out; have hcz207_0 : w201.cell? ⟨gb471, 0, none⟩ = some (.slice none 0 0) := yc BK471.out 0; have hcz207_1 : w201.cell? ⟨gb471, 1, none⟩ = some (.string (⟨#[]⟩ : ByteArray)) := yc BK471.out 1; have hcz207_2 : w201.cell? ⟨gb471, 2, none⟩ = some (.string (⟨#[]⟩ : ByteArray)) := yc BK471.out 2; have hfz207_0 := yZ BK471.out 0; have hfz207_1 := yZ BK471.out 1; have hfz207_2 := yZ BK471.out 2) | ((with_reducible refine gate_callee (f := 18) rfl ?_); refine goesL_ (some 157) rfl rfl Try.func18 (by kernel_rfl) rfl #[.agg #[.slice Ao202 t465.length co202, .string t468, .string t469]] rfl (by (try simp only [List.map_toArray, List.map_cons, List.map_nil]); first | done | rfl | (simp only [List.length_drop, List.length_take]; rfl)) ?_; (with_reducible refine (impl_CheckStripe.calls kj177 _ _ t465 t468 t469 t472 true _ ?side1 ?side2 A193.out).mono ?_); (case side1 => exact rC (n := t465.length) (c := co202) ((x3 HO467.out BK471.out (by decide) (.slice Ao202 t465.length co202) (.string t468) (.string t469)))); (case side2 => exact (Kd.R_reads' HO467.out).2.1); rintro e w208 ⟨rfl, hb⟩; refine ⟨_, rfl, ?_⟩; replace p0' := aM (xB (xH ((x3 p0'.out BK471.out (by decide) (.slice Ao202 t465.length co202) (.string t468) (.string t469)))) hb); replace p1' := aM (xB (xH ((x3 p1'.out BK471.out (by decide) (.slice Ao202 t465.length co202) (.string t468) (.string t469)))) hb); replace p2' := aM (xB (xH ((x3 p2'.out BK471.out (by decide) (.slice Ao202 t465.length co202) (.string t468) (.string t469)))) hb); replace p3' := aM (xB (xH ((x3 p3'.out BK471.out (by decide) (.slice Ao202 t465.length co202) (.string t468) (.string t469)))) hb); replace HO467 := aM (xB (xH ((x3 HO467.out BK471.out (by decide) (.slice Ao202 t465.length co202) (.string t468) (.string t469)))) hb); replace BK423 := aM (yB (g := gb423) (o := .cells #[.slice Ao12 t416.length co12, .string t419, .string t420] 27 (0, 0)) (by (with_reducible repeat (first | refine yN ?_ _ | refine yD ?_ | refine yA ?_ _)); refine yF ?_ NB423_471.out _; (with_reducible repeat (first | refine yN ?_ _ | refine yD ?_ | refine yA ?_ _)); refine yF ?_ NB423_471.out _; (with_reducible repeat (first | refine yN ?_ _ | refine yD ?_ | refine yA ?_ _)); refine yF ?_ NB423_471.out _; (with_reducible repeat (first | refine yN ?_ _ | refine yD ?_ | refine yA ?_ _)); exact BK423.out) hb); replace BK430 := aM (yB (g := gb430) (o := .cells #[.slice Ao16 t424.length co16, .string t427, .string t428] 27 (0, 0)) (by (with_reducible repeat (first | refine yN ?_ _ | refine yD ?_ | refine yA ?_ _)); refine yF ?_ NB430_471.out _; (with_reducible repeat (first | refine yN ?_ _ | refine yD ?_ | refine yA ?_ _)); refine yF ?_ NB430_471.out _; (with_reducible repeat (first | refine yN ?_ _ | refine yD ?_ | refine yA ?_ _)); refine yF ?_ NB430_471.out _; (with_reducible repeat (first | refine yN ?_ _ | refine yD ?_ | refine yA ?_ _)); exact BK430.out) hb); replace BK437 := aM (yB (g := gb437) (o := .cells #[.slice Ao22 t431.length co22, .string t434, .string t435] 27 (0, 0)) (by (with_reducible repeat (first | refine yN ?_ _ | refine yD ?_ | refine yA ?_ _)); refine yF ?_ NB437_471.out _; (with_reducible repeat (first | refine yN ?_ _ | refine yD ?_ | refine yA ?_ _)); refine yF ?_ NB437_471.out _; (with_reducible repeat (first | refine yN ?_ _ | refine yD ?_ | refine yA ?_ _)); refine yF ?_ NB437_471.out _; (with_reducible repeat (first | refine yN ?_ _ | refine yD ?_ | refine yA ?_ _)); exact BK437.out) hb); replace BK460 := aM (yB (g := gb460) (o := .cells #[.slice Ao181 t455.length co181, .string t458, .string t459] 27 (0, 0)) (by (with_reducible repeat (first | refine yN ?_ _ | refine yD ?_ | refine yA ?_ _)); refine yF ?_ NB460_471.out _; (with_reducible repeat (first | refine yN ?_ _ | refine yD ?_ | refine yA ?_ _)); refine yF ?_ NB460_471.out _; (with_reducible repeat (first | refine yN ?_ _ | refine yD ?_ | refine yA ?_ _)); refine yF ?_ NB460_471.out _; (with_reducible repeat (first | refine yN ?_ _ | refine yD ?_ | refine yA ?_ _)); exact BK460.out) hb); replace BK471 := aM (yB (g := gb471) (o := .cells #[.slice Ao202 t465.length co202, .string t468, .string t469] 27 (0, 0)) (by (with_reducible repeat (first | refine yN ?_ _ | refine yD ?_ | refine yA ?_ _)); refine yP (cs := #[.slice Ao202 t465.length co202, .string t468, .string (⟨#[]⟩ : ByteArray)]) ?_ 2 _ rfl; (with_reducible repeat (first | refine yN ?_ _ | refine yD ?_ | refine yA ?_ _)); refine yP (cs := #[.slice Ao202 t465.length co202, .string (⟨#[]⟩ : ByteArray), .string (⟨#[]⟩ : ByteArray)]) ?_ 1 _ rfl; (with_reducible repeat (first | refine yN ?_ _ | refine yD ?_ | refine yA ?_ _)); refine yP (cs := #[.slice none 0 0, .string (⟨#[]⟩ : ByteArray), .string (⟨#[]⟩ : ByteArray)]) ?_ 0 _ rfl; (with_reducible repeat (first | refine yN ?_ _ | refine yD ?_ | refine yA ?_ _)); exact BK471.out) hb); replace HB := aM (zT (zH HB.out) hb); (try clear hb)))
             go_ret
             exact ⟨by first | rfl | (simp [errW_none, errW_some] <;> rfl) | (simp [*, errW_none, errW_some] <;> rfl), zH HB.out⟩
            ·replace c195 := Bool.eq_false_iff.mpr c195
             subst c195
             have H1 : (some false) = some r := by rw [if_neg (show ¬ (false = true) by decide)] at H; exact H
             clear H
             have H := H1
             clear H1
             exact absurd (H.trans (congrArg some HR_.out)) (by decide)
           ·replace c194 := Bool.eq_false_iff.mpr c194
            subst c194
            have H1 : (some false) = some r := by rw [if_neg (show ¬ (false = true) by decide)] at H; exact H
            clear H
            have H := H1
            clear H1
            exact absurd (H.trans (congrArg some HR_.out)) (by decide)
          ·replace c191 := Bool.eq_false_iff.mpr c191
           subst c191
           have H1 : (some (t461 == 0)) = some r := by rw [if_neg (show ¬ (false = true) by decide)] at H; exact H
           clear H
           have H := H1
           clear H1
           obtain rfl := Option.some.inj H
           go_wp2
           go_ret
           exact ⟨by first | rfl | (simp [errW_none, errW_some] <;> rfl) | (simp [*, errW_none, errW_some] <;> rfl), zH HB.out⟩

/-- THE ONE PURE STATEMENT of laws_FnUpdated: yours. -/
def laws_FnUpdated.Pure : Prop := ∀ (l0 : List Int) (l1 : List Int), l0.length ≤ maxLen → l0.length * 1 ≤ 140737488351232 → (∀ x ∈ l0, (Lit.int .u8 x).wf = true) → l1.length ≤ maxLen → l1.length * 1 ≤ 140737488351232 → (∀ x ∈ l1, (Lit.int .u8 x).wf = true) → ∃ k, laws_FnUpdated.f k l0 l1 = some true
theorem laws_FnUpdated.walk (P : laws_FnUpdated.Pure) (a0 : Option Addr) (len0 cap0 : Nat) (z0 : List Int) (a1 : Option Addr) (len1 cap1 : Nat) (z1 : List Int) (w : World) (w0 : (a0 = none ∧ len0 = 0 ∧ cap0 = 0 ∧ z0 = []) ∨ ∃ x, a0 = some x ∧ len0 ≤ cap0 ∧ cap0 ≤ maxLen ∧ z0.length = cap0 ∧ (∀ i, i < z0.length → w.cell? (x.add i) = some (.int .u8 (z0.getD i 0))) ∧ ∀ n ∈ z0, (Lit.int .u8 n).wf = true) (y0 : len0 * 1 ≤ 140737488351232) (w1 : (a1 = none ∧ len1 = 0 ∧ cap1 = 0 ∧ z1 = []) ∨ ∃ x, a1 = some x ∧ len1 ≤ cap1 ∧ cap1 ≤ maxLen ∧ z1.length = cap1 ∧ (∀ i, i < z1.length → w.cell? (x.add i) = some (.int .u8 (z1.getD i 0))) ∧ ∀ n ∈ z1, (Lit.int .u8 n).wf = true) (y1 : len1 * 1 ≤ 140737488351232) :
  Calls Try.prog 10 #[.slice a0 len0 cap0, .slice a1 len1 cap1] w fun e w' => e = .returned (.bool true) ∧ Below w.heap.size w w' := by
 obtain ⟨l0, rfl, hr0, hm0, hw0, hc0⟩ := ReadsInt.ofRowC w0
 obtain ⟨l1, rfl, hr1, hm1, hw1, hc1⟩ := ReadsInt.ofRowC w1
 obtain ⟨k, h⟩ := P l0 l1 hm0 y0 hw0 hm1 y1 hw1
 refine (laws_FnUpdated.calls k _ _ l0 _ _ l1 true w (Kd.C_of_reads (d := (0 : Int)) (h1 := fun _ => rfl) hr0) hc0 (Kd.C_of_reads (d := (0 : Int)) (h1 := fun _ => rfl) hr1) hc1 h).mono ?_
 rintro e w' ⟨rfl, hd⟩
 exact ⟨rfl, hd⟩

end Go.Proofs.Ytfijnlhklfmoeaa.PFnUpdated
