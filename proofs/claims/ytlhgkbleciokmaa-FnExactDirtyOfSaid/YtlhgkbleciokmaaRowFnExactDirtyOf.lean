/- The row of FnExactDirtyOf, out of its pure statement and the walk; no condition. -/
import Derived.Test.YtlhgkbleciokmaaRows
import Derived.Test.YtlhgkbleciokmaaQFnExactDirtyOfx6
import Derived.Test.YtlhgkbleciokmaaPureFnExactDirtyOf
import Derived.Test.YtlhgkbleciokmaaOpen
import Derived.WalkKit
import Derived.ProofKit
import Derived.OpenShut
import Derived.ShutString
import Derived.ChangeOld
import Derived.Below
import Derived.SizedLaws
import Derived.Lib.SmallJoins
namespace Go.Proofs.Ytlhgkbleciokmaa.fnExactDirtyOf
open Go.ChangeShapes Go.WideShapes Go.ChangeAt Go.RowKit Go.Joins
open Go.Proofs.Ytlhgkbleciokmaa.PFnExactDirtyOf Go.Proofs.YtlhgkbleciokmaaW.PrintWords Go.Proofs.Ytlhgkbleciokmaa.Open
open Go.ChangeMaps (open_string shut_string)
set_option linter.unusedVariables false
set_option linter.unusedSimpArgs false
theorem own : ownKnob Try.prog.godebug = none := by kernel_rfl
theorem laidOut : laidOutB Try.prog = true := by kernel_rfl
theorem op9 : TOpen Try.prog 9 Kd.string (fun x => x.size ≤ maxLen) := topen_string Try.underlying9
theorem op22 : TOpen Try.prog 22 (Kd.slice 9 Kd.string) (fun xs => (xs.length ≤ maxLen ∧ ∀ x_ ∈ xs, x_.size ≤ maxLen)) := topen_mono (topen_slice Try.underlying22 (by kernel_rfl : Try.prog.cellsOf 9 = 1) op9) (fun xs h => h)
theorem op3 : TOpen Try.prog 3 (Kd.int .i64) (fun x => (Lit.int .i64 x).wf = true) := topen_int Try.underlying3
theorem op38 : TOpen Try.prog 38 k38 okS38 := topen_mono (topen_iso (fun x : S38 => (x.f0, x.f1)) (fun y => ⟨y.1, y.2⟩) (fun _ => rfl) (topen_struct2 Try.underlying38 (by kernel_rfl) op3 op9)) (fun x h => ⟨h.1, h.2⟩)
theorem op23 : TOpen Try.prog 23 (Kd.slice 38 k38) (fun xs => (xs.length ≤ maxLen ∧ ∀ x_ ∈ xs, okS38 x_)) := topen_mono (topen_slice Try.underlying23 (by kernel_rfl : Try.prog.cellsOf 38 = 2) op38) (fun xs h => h)
set_option maxRecDepth 100000 in
theorem lifted (os : Os) (started : os.Started) (H : Type) (enc : TypeId × Value → H) :
    ReturnsInHanded {} Try.checked os 11 .any (Rows.fnExactDirtyOfSpec.pre6 enc Try.prog Try.f11 Rows.fnExactDirtyOfRow.domain false) (Rows.fnExactDirtyOfSpec.post enc Try.prog Try.f11 false true false false) := by
  refine returnsInHanded_of_change_sized (C := Try.checked) own started (by kernel_rfl) Try.func11
    (ChangeSpec.witness6 (enc := enc) (C := Try.checked) false ⟨#[], #[.agg #[.slice none 0 0, .slice none 0 0]], []⟩ 8 (by kernel_rfl) (by kernel_rfl) (by kernel_rfl) (by kernel_rfl)) ?_
  intro W base args ds gs before hval0 hW hcnd hsz0 _
  have hval : ∀ (j : Nat) t v, Try.f11.params[j]? = some t → args[j]? = some v → Value.okWide Try.prog W .any base t v := hval0
  have hW' := hW
  obtain ⟨p, q, hA0, hV, rfl, hfz, hnd⟩ := hW
  have hA : DataW.TrodAll enc Try.prog W 0 (fun _ => true) true Try.f11.params.toList args.toList ds p := hA0
  rw [Try.params11] at hA hval
  obtain ⟨v0, vs0, d0, ds0, p0, q0, hargs, rfl, rfl, h0, r0⟩ := trodAll_cons hA
  obtain ⟨rfl, rfl, rfl⟩ := trodAll_nil r0
  obtain rfl : args = #[v0] := by cases args; simp_all
  obtain ⟨rfl, rfl⟩ := trodVars_none hV
  have k0 := h0
  have lt0 : ∀ x ∈ p0, x.block < W.heap.size := by obtain ⟨m, hm⟩ := k0; exact DataW.trod_lt m _ _ _ hm
  obtain ⟨c0_0', c0_1', y0_0, y0_1, m0, rfl, _, _, h0_0, h0_1⟩ := open_agg2 Try.underlying25 (by kernel_rfl) (by kernel_rfl) (hval 0 25 v0 rfl rfl) h0
  obtain ⟨A0_0, c0_0, l0_0, ok0_0, rfl, hc0_0, hr0_0⟩ := open_field_slice op22 h0_0
  obtain ⟨A0_1, c0_1, l0_1, ok0_1, rfl, hc0_1, hr0_1⟩ := open_field_slice op23 h0_1
  clear hA0 hval0 hsz0
  obtain ⟨k, h⟩ := Pure.FnExactDirtyOf l0_0 l0_1 ok0_0 ok0_1
  refine (laws_FnExactDirtyOf.calls k A0_0 c0_0 l0_0 A0_1 c0_1 l0_1 true W hr0_0 hc0_0 hr0_1 hc0_1 h).mono ?_
  rintro e W' ⟨rfl, hd⟩
  have bel : Below W.heap.size W W' := hd
  exact ⟨_, rfl, _, _, _, [], _, [], hW', trodAll_mk1 (shut_bool Try.underlying4 _), (trodAll_cons_mk (Below.trod laidOut (by kernel_rfl) (of_decide_eq_true (by kernel_rfl)) k0 bel lt0) trodAll_mk0), rfl, bel.frame _, fun h => by cases h⟩
theorem over : Rows.fnExactDirtyOfRow.holds Try.pinned (OpenSpec.ofChange Rows.fnExactDirtyOfSpec) :=
  OpenClaim.holds_of_wide 11 Try.f11 rfl rfl rfl rfl rfl rfl rfl ⟨rfl, rfl, rfl, rfl, rfl⟩ rfl rfl rfl rfl rfl (by kernel_rfl) Try.func11 (by kernel_rfl)
    (of_decide_eq_true (by kernel_rfl)) (by unfold Func.isWrapper; first | (rw [if_pos (by decide +kernel)]; kernel_rfl) | (rw [if_neg (by decide +kernel)]; exact ⟨rfl, rfl⟩))
    (fun os started H enc _ => lifted os started H enc)
theorem proved : Rows.FnExactDirtyOfSaid := over
#print axioms proved
end Go.Proofs.Ytlhgkbleciokmaa.fnExactDirtyOf
namespace Go.Proofs.Ytlhgkbleciokmaa
/-- The row, under a short name, for the claim. -/
theorem fnExactDirtyOf_holds : Rows.FnExactDirtyOfSaid := fnExactDirtyOf.proved
end Go.Proofs.Ytlhgkbleciokmaa
