/- The row of FnExactPlayDevice, out of its pure statement and the walk; no condition. -/
import Derived.Test.YtlhgkbleciokmaaRows
import Derived.Test.YtlhgkbleciokmaaQFnExactPlayDevicex9
import Derived.Test.YtlhgkbleciokmaaPureFnExactPlayDevice
import Derived.Test.YtlhgkbleciokmaaOpen
import Derived.WalkKit
import Derived.ProofKit
import Derived.OpenShut
import Derived.ShutString
import Derived.ChangeOld
import Derived.Below
import Derived.SizedLaws
import Derived.Lib.SmallJoins
namespace Go.Proofs.Ytlhgkbleciokmaa.fnExactPlayDevice
open Go.ChangeShapes Go.WideShapes Go.ChangeAt Go.RowKit Go.Joins
open Go.Proofs.Ytlhgkbleciokmaa.PFnExactPlayDevice Go.Proofs.YtlhgkbleciokmaaW.PrintWords Go.Proofs.Ytlhgkbleciokmaa.Open
open Go.ChangeMaps (open_string shut_string)
set_option linter.unusedVariables false
set_option linter.unusedSimpArgs false
theorem own : ownKnob Try.prog.godebug = none := by kernel_rfl
theorem laidOut : laidOutB Try.prog = true := by kernel_rfl
theorem op3 : TOpen Try.prog 3 (Kd.int .i64) (fun x => (Lit.int .i64 x).wf = true) := topen_int Try.underlying3
theorem op9 : TOpen Try.prog 9 Kd.string (fun x => x.size ≤ maxLen) := topen_string Try.underlying9
theorem op38 : TOpen Try.prog 38 k38 okS38 := topen_mono (topen_iso (fun x : S38 => (x.f0, x.f1)) (fun y => ⟨y.1, y.2⟩) (fun _ => rfl) (topen_struct2 Try.underlying38 (by kernel_rfl) op3 op9)) (fun x h => ⟨h.1, h.2⟩)
theorem op23 : TOpen Try.prog 23 (Kd.slice 38 k38) (fun xs => (xs.length ≤ maxLen ∧ ∀ x_ ∈ xs, okS38 x_)) := topen_mono (topen_slice Try.underlying23 (by kernel_rfl : Try.prog.cellsOf 38 = 2) op38) (fun xs h => h)
set_option maxRecDepth 100000 in
theorem lifted (os : Os) (started : os.Started) (H : Type) (enc : TypeId × Value → H) :
    ReturnsInHanded {} Try.checked os 10 .any (Rows.fnExactPlayDeviceSpec.pre6 enc Try.prog Try.f10 Rows.fnExactPlayDeviceRow.domain false) (Rows.fnExactPlayDeviceSpec.post enc Try.prog Try.f10 false true false false) := by
  refine returnsInHanded_of_change_sized (C := Try.checked) own started (by kernel_rfl) Try.func10
    (ChangeSpec.witness6 (enc := enc) (C := Try.checked) false ⟨#[], #[.int .i64 0, .slice none 0 0], []⟩ 8 (by kernel_rfl) (by kernel_rfl) (by kernel_rfl) (by kernel_rfl)) ?_
  intro W base args ds gs before hval0 hW hcnd hsz0 _
  have hval : ∀ (j : Nat) t v, Try.f10.params[j]? = some t → args[j]? = some v → Value.okWide Try.prog W .any base t v := hval0
  have hW' := hW
  obtain ⟨p, q, hA0, hV, rfl, hfz, hnd⟩ := hW
  have hA : DataW.TrodAll enc Try.prog W 0 (fun _ => true) true Try.f10.params.toList args.toList ds p := hA0
  rw [Try.params10] at hA hval
  obtain ⟨v0, vs0, d0, ds0, p0, q0, hargs, rfl, rfl, h0, r0⟩ := trodAll_cons hA
  obtain ⟨v1, vs1, d1, ds1, p1, q1, rfl, rfl, rfl, h1, r1⟩ := trodAll_cons r0
  obtain ⟨rfl, rfl, rfl⟩ := trodAll_nil r1
  obtain rfl : args = #[v0, v1] := by cases args; simp_all
  obtain ⟨rfl, rfl⟩ := trodVars_none hV
  obtain ⟨a0, rfl, rfl, rfl, w0⟩ := open_int Try.underlying3 (hval 0 3 v0 rfl rfl) h0
  have k1 := h1
  have lt1 : ∀ x ∈ p1, x.block < W.heap.size := by obtain ⟨m, hm⟩ := k1; exact DataW.trod_lt m _ _ _ hm
  obtain ⟨A1, len1, c1, rfl⟩ := okWide_slice Try.underlying23 (hval 1 23 v1 rfl rfl)
  obtain ⟨l1, ok1, e1, hc1, hr1⟩ := open_slice_of op23 h1
  subst e1
  clear hA0 hval0 hsz0
  obtain ⟨k, h⟩ := Pure.FnExactPlayDevice a0 l1 w0 ok1
  refine (laws_FnExactPlayDevice.calls k a0 A1 c1 l1 true W hr1 hc1 h).mono ?_
  rintro e W' ⟨rfl, hd⟩
  have bel : Below W.heap.size W W' := hd
  exact ⟨_, rfl, _, _, _, [], _, [], hW', trodAll_mk1 (shut_bool Try.underlying4 _), (trodAll_cons_mk (shut_int Try.underlying3 w0) (trodAll_cons_mk (Below.trod laidOut (by kernel_rfl) (of_decide_eq_true (by kernel_rfl)) k1 bel lt1) trodAll_mk0)), rfl, bel.frame _, fun h => by cases h⟩
theorem over : Rows.fnExactPlayDeviceRow.holds Try.pinned (OpenSpec.ofChange Rows.fnExactPlayDeviceSpec) :=
  OpenClaim.holds_of_wide 10 Try.f10 rfl rfl rfl rfl rfl rfl rfl ⟨rfl, rfl, rfl, rfl, rfl⟩ rfl rfl rfl rfl rfl (by kernel_rfl) Try.func10 (by kernel_rfl)
    (of_decide_eq_true (by kernel_rfl)) (by unfold Func.isWrapper; first | (rw [if_pos (by decide +kernel)]; kernel_rfl) | (rw [if_neg (by decide +kernel)]; exact ⟨rfl, rfl⟩))
    (fun os started H enc _ => lifted os started H enc)
theorem proved : Rows.FnExactPlayDeviceSaid := over
#print axioms proved
end Go.Proofs.Ytlhgkbleciokmaa.fnExactPlayDevice
namespace Go.Proofs.Ytlhgkbleciokmaa
/-- The row, under a short name, for the claim. -/
theorem fnExactPlayDevice_holds : Rows.FnExactPlayDeviceSaid := fnExactPlayDevice.proved
end Go.Proofs.Ytlhgkbleciokmaa
